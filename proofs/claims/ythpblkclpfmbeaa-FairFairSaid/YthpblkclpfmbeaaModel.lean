/- Written by a program of ours (wip/eng/gen.py): the plain models of the functions. -/
import Derived.Test.YthpblkclpfmbeaaEngV
namespace Go.Proofs.Ythpblkclpfmbeaa.M
open Go Go.Proofs.Ythpblkclpfmbeaa.E
set_option linter.unusedVariables false
structure SRule where
  Mask : Int
  Most : Int
def dSRule : SRule := ⟨0, 0⟩
def chargenetlaw10_sum (F : Nat) (a0_most : Int) : Option Int :=
  some a0_most
def fair_check_p2  : Option Int :=
  some 0
def fair_check_b12 (a0_caps : List Int) (kl_n_12 : Int → Option Int) (t10_7 : Int) : Option Int :=
  bif decide (t10_7 < ((a0_caps).length : Int)) then (guard ((0 : Int) ≤ t10_7 ∧ t10_7 < ((a0_caps).length : Int)) (bif decide (a0_caps.getD t10_7.toNat 0 < 0) then (some 2) else (bif decide (1099511627776 < a0_caps.getD t10_7.toNat 0) then (some 2) else (kl_n_12 (IntKind.wrap .i64 (t10_7 + 1)))))) else (fair_check_p2)
def fair_check_l12 (a0_caps : List Int) : Nat → Int → Option Int
  | 0, _ => none
  | n + 1, t10_7 => fair_check_b12 a0_caps (fun t10_7 => fair_check_l12 a0_caps n t10_7) t10_7
def fair_check (F : Nat) (a0_caps : List Int) : Option Int :=
  bif decide (64 < ((a0_caps).length : Int)) then (some 3) else (fair_check_l12 a0_caps F 0)
def chargenetlaw10_sum_1_p2 (a1f0 : Int) (n_1 : Int) : Option Bool :=
  some (decide (n_1 ≤ a1f0))
def chargenetlaw10_sum_1_b9 (a0_l : List Int) (a1f0 : Int) (kl_n_9 : Int → Int → Option Bool) (n_5 : Int) (t9_6 : Int) : Option Bool :=
  bif decide (t9_6 < ((a0_l).length : Int)) then (guard ((0 : Int) ≤ t9_6 ∧ t9_6 < ((a0_l).length : Int)) (kl_n_9 (IntKind.wrap .i64 (n_5 + a0_l.getD t9_6.toNat 0)) (IntKind.wrap .i64 (t9_6 + 1)))) else (chargenetlaw10_sum_1_p2 a1f0 n_5)
def chargenetlaw10_sum_1_l9 (a0_l : List Int) (a1f0 : Int) : Nat → Int → Int → Option Bool
  | 0, _, _ => none
  | n + 1, n_5, t9_6 => chargenetlaw10_sum_1_b9 a0_l a1f0 (fun n_5 t9_6 => chargenetlaw10_sum_1_l9 a0_l a1f0 n n_5 t9_6) n_5 t9_6
def chargenetlaw10_sum_1 (F : Nat) (a0_l : List Int) (a1f0 : Int) : Option Bool :=
  chargenetlaw10_sum_1_l9 a0_l a1f0 F 0 0
def fair_least_int_p2 (first_1 : Int) : Option Int :=
  some first_1
def fair_least_int_p18 (t9_9 : Int) (kl_n_15 : Int → Int → Option Int) (first_17 : Int) : Option Int :=
  kl_n_15 first_17 (IntKind.wrap .i64 (t9_9 + 1))
def fair_least_int_b15 (a1_others : List Int) (kl_n_15 : Int → Int → Option Int) (first_8 : Int) (t9_9 : Int) : Option Int :=
  bif decide (t9_9 < ((a1_others).length : Int)) then (guard ((0 : Int) ≤ t9_9 ∧ t9_9 < ((a1_others).length : Int)) (bif decide (a1_others.getD t9_9.toNat 0 < first_8) then (fair_least_int_p18 t9_9 kl_n_15 (a1_others.getD t9_9.toNat 0)) else (fair_least_int_p18 t9_9 kl_n_15 first_8))) else (fair_least_int_p2 first_8)
def fair_least_int_l15 (a1_others : List Int) : Nat → Int → Int → Option Int
  | 0, _, _ => none
  | n + 1, first_8, t9_9 => fair_least_int_b15 a1_others (fun first_8 t9_9 => fair_least_int_l15 a1_others n first_8 t9_9) first_8 t9_9
def fair_least_int (F : Nat) (a0_first : Int) (a1_others : List Int) : Option Int :=
  fair_least_int_l15 a1_others F a0_first 0
def fair_division_raise_f0_p34_p28 (t11_11 : Int) (o3_12 : List Int) (kl_n_23 : Int → (List Int) → Option (List Int)) (n_26 : Int) : Option (List Int) :=
  guard ((0 : Int) ≤ t11_11 ∧ t11_11 < ((o3_12).length : Int)) (kl_n_23 (IntKind.wrap .i64 (t11_11 + 1)) (o3_12.set t11_11.toNat n_26))
def fair_division_raise_f0_p34_b23 (F : Nat) (a0_v_caps : List Int) (a0_v_x : List Int) (a0_v_active : List Bool) (a1_d : Int) (kl_n_23 : Int → (List Int) → Option (List Int)) (t11_11 : Int) (o3_12 : List Int) : Option (List Int) :=
  bif decide (t11_11 < ((a0_v_x).length : Int)) then (guard ((0 : Int) ≤ t11_11 ∧ t11_11 < ((a0_v_x).length : Int)) (guard ((0 : Int) ≤ t11_11 ∧ t11_11 < ((a0_v_active).length : Int)) (bif a0_v_active.getD t11_11.toNat false then (guard ((0 : Int) ≤ t11_11 ∧ t11_11 < ((a0_v_caps).length : Int)) ((fair_least_int F (IntKind.wrap .i64 (a0_v_x.getD t11_11.toNat 0 + a1_d)) ([a0_v_caps.getD t11_11.toNat 0])).bind fun c_32 => fair_division_raise_f0_p34_p28 t11_11 o3_12 kl_n_23 c_32)) else (fair_division_raise_f0_p34_p28 t11_11 o3_12 kl_n_23 (a0_v_x.getD t11_11.toNat 0))))) else (some o3_12)
def fair_division_raise_f0_p34_l23 (F : Nat) (a0_v_caps : List Int) (a0_v_x : List Int) (a0_v_active : List Bool) (a1_d : Int) : Nat → Int → (List Int) → Option (List Int)
  | 0, _, _ => none
  | n + 1, t11_11, o3_12 => fair_division_raise_f0_p34_b23 F a0_v_caps a0_v_x a0_v_active a1_d (fun t11_11 o3_12 => fair_division_raise_f0_p34_l23 F a0_v_caps a0_v_x a0_v_active a1_d n t11_11 o3_12) t11_11 o3_12
def fair_division_raise_f0_p34 (F : Nat) (a0_v_caps : List Int) (a0f0 : Int) (a0_v_x : List Int) (a0_v_active : List Bool) (a0_v_trial : List Int) (a1_d : Int) : Option (List Int) :=
  fair_division_raise_f0_p34_l23 F a0_v_caps a0_v_x a0_v_active a1_d F 0 a0_v_trial
def fair_division_raisable_f0_p34 (F : Nat) (a0_v_caps : List Int) (a0f0 : Int) (a0_v_x : List Int) (a0_v_active : List Bool) (a0_v_trial : List Int) (a1_d : Int) : Option (Bool × (List Int)) :=
  (fair_division_raise_f0_p34 F a0_v_caps a0f0 a0_v_x a0_v_active a0_v_trial a1_d).bind fun c_1 => (chargenetlaw10_sum_1 F c_1 a0f0).bind fun c_3 => some ((c_3, c_1))
def fair_division_together_f0_p34_p6 (F : Nat) (a0_v_caps : List Int) (a0f0 : Int) (a0_v_x : List Int) (a0_v_active : List Bool) (d_2 : Int) (o3_3 : List Int) : Option ((List Int) × (List Int)) :=
  (fair_division_raise_f0_p34 F a0_v_caps a0f0 a0_v_x a0_v_active o3_3 d_2).bind fun c_4 => some ((copyL a0_v_x 0 ((a0_v_x).length) c_4, c_4))
def fair_division_together_f0_p34_b23 (F : Nat) (a0_v_caps : List Int) (a0f0 : Int) (a0_v_x : List Int) (a0_v_active : List Bool) (kl_n_23 : Int → Int → (List Int) → Option ((List Int) × (List Int))) (d_16 : Int) (bad_17 : Int) (o3_18 : List Int) : Option ((List Int) × (List Int)) :=
  bif decide (1 < IntKind.wrap .i64 (bad_17 - d_16)) then ((fair_division_raisable_f0_p34 F a0_v_caps a0f0 a0_v_x a0_v_active o3_18 (IntKind.wrap .i64 (d_16 + IntKind.wrap .i64 (Int.tdiv (IntKind.wrap .i64 (bad_17 - d_16)) 2)))).bind fun c_25 => bif c_25.1 then (kl_n_23 (IntKind.wrap .i64 (d_16 + IntKind.wrap .i64 (Int.tdiv (IntKind.wrap .i64 (bad_17 - d_16)) 2))) bad_17 c_25.2) else (kl_n_23 d_16 (IntKind.wrap .i64 (d_16 + IntKind.wrap .i64 (Int.tdiv (IntKind.wrap .i64 (bad_17 - d_16)) 2))) c_25.2)) else (fair_division_together_f0_p34_p6 F a0_v_caps a0f0 a0_v_x a0_v_active d_16 o3_18)
def fair_division_together_f0_p34_l23 (F : Nat) (a0_v_caps : List Int) (a0f0 : Int) (a0_v_x : List Int) (a0_v_active : List Bool) : Nat → Int → Int → (List Int) → Option ((List Int) × (List Int))
  | 0, _, _, _ => none
  | n + 1, d_16, bad_17, o3_18 => fair_division_together_f0_p34_b23 F a0_v_caps a0f0 a0_v_x a0_v_active (fun d_16 bad_17 o3_18 => fair_division_together_f0_p34_l23 F a0_v_caps a0f0 a0_v_x a0_v_active n d_16 bad_17 o3_18) d_16 bad_17 o3_18
def fair_division_together_f0_p34_p28 (F : Nat) (a0_v_caps : List Int) (a0f0 : Int) (a0_v_x : List Int) (a0_v_active : List Bool) (most_1 : Int) (t45_7 : Bool) (o3_8 : List Int) : Option ((List Int) × (List Int)) :=
  bif t45_7 then (fair_division_together_f0_p34_l23 F a0_v_caps a0f0 a0_v_x a0_v_active F 0 most_1 o3_8) else (fair_division_together_f0_p34_p6 F a0_v_caps a0f0 a0_v_x a0_v_active most_1 o3_8)
def fair_division_together_f0_p34_p32 (F : Nat) (a0_v_caps : List Int) (a0f0 : Int) (a0_v_x : List Int) (a0_v_active : List Bool) (a0_v_trial : List Int) (most_1 : Int) : Option ((List Int) × (List Int)) :=
  bif decide (0 < most_1) then ((fair_division_raisable_f0_p34 F a0_v_caps a0f0 a0_v_x a0_v_active a0_v_trial most_1).bind fun c_30 => fair_division_together_f0_p34_p28 F a0_v_caps a0f0 a0_v_x a0_v_active most_1 ((!c_30.1)) c_30.2) else (fair_division_together_f0_p34_p28 F a0_v_caps a0f0 a0_v_x a0_v_active most_1 false a0_v_trial)
def fair_division_together_f0_p34_p52 (t13_41 : Int) (kl_n_49 : Int → Int → Option ((List Int) × (List Int))) (most_51 : Int) : Option ((List Int) × (List Int)) :=
  kl_n_49 most_51 (IntKind.wrap .i64 (t13_41 + 1))
def fair_division_together_f0_p34_b49 (F : Nat) (a0_v_caps : List Int) (a0f0 : Int) (a0_v_x : List Int) (a0_v_active : List Bool) (a0_v_trial : List Int) (kl_n_49 : Int → Int → Option ((List Int) × (List Int))) (most_40 : Int) (t13_41 : Int) : Option ((List Int) × (List Int)) :=
  bif decide (t13_41 < ((a0_v_x).length : Int)) then (guard ((0 : Int) ≤ t13_41 ∧ t13_41 < ((a0_v_x).length : Int)) (guard ((0 : Int) ≤ t13_41 ∧ t13_41 < ((a0_v_active).length : Int)) (bif a0_v_active.getD t13_41.toNat false then (guard ((0 : Int) ≤ t13_41 ∧ t13_41 < ((a0_v_caps).length : Int)) (fair_division_together_f0_p34_p52 t13_41 kl_n_49 ((if most_40 < IntKind.wrap .i64 (a0_v_caps.getD t13_41.toNat 0 - a0_v_x.getD t13_41.toNat 0) then IntKind.wrap .i64 (a0_v_caps.getD t13_41.toNat 0 - a0_v_x.getD t13_41.toNat 0) else most_40)))) else (fair_division_together_f0_p34_p52 t13_41 kl_n_49 most_40)))) else (fair_division_together_f0_p34_p32 F a0_v_caps a0f0 a0_v_x a0_v_active a0_v_trial most_40)
def fair_division_together_f0_p34_l49 (F : Nat) (a0_v_caps : List Int) (a0f0 : Int) (a0_v_x : List Int) (a0_v_active : List Bool) (a0_v_trial : List Int) : Nat → Int → Int → Option ((List Int) × (List Int))
  | 0, _, _ => none
  | n + 1, most_40, t13_41 => fair_division_together_f0_p34_b49 F a0_v_caps a0f0 a0_v_x a0_v_active a0_v_trial (fun most_40 t13_41 => fair_division_together_f0_p34_l49 F a0_v_caps a0f0 a0_v_x a0_v_active a0_v_trial n most_40 t13_41) most_40 t13_41
def fair_division_together_f0_p34 (F : Nat) (a0_v_caps : List Int) (a0f0 : Int) (a0_v_x : List Int) (a0_v_active : List Bool) (a0_v_trial : List Int) : Option ((List Int) × (List Int)) :=
  fair_division_together_f0_p34_l49 F a0_v_caps a0f0 a0_v_x a0_v_active a0_v_trial F 0 0
def fair_division_single_f0_p34_p5 (left_1 : Bool) (o1_2 : List Int) (o2_3 : List Bool) (o3_4 : List Int) : Option (Bool × (List Int) × (List Bool) × (List Int)) :=
  some ((left_1, o1_2, o2_3, o3_4))
def fair_division_single_f0_p34_p59 (t10_28 : Int) (kl_n_53 : Bool → Int → (List Int) → (List Bool) → (List Int) → Option (Bool × (List Int) × (List Bool) × (List Int))) (left_55 : Bool) (o1_56 : List Int) (o2_58 : List Bool) (o3_57 : List Int) : Option (Bool × (List Int) × (List Bool) × (List Int)) :=
  kl_n_53 left_55 (IntKind.wrap .i64 (t10_28 + 1)) o1_56 o2_58 o3_57
def fair_division_single_f0_p34_p64 (left_27 : Bool) (t10_28 : Int) (o1_29 : List Int) (o2_30 : List Bool) (kl_n_53 : Bool → Int → (List Int) → (List Bool) → (List Int) → Option (Bool × (List Int) × (List Bool) × (List Int))) (o3_62 : List Int) : Option (Bool × (List Int) × (List Bool) × (List Int)) :=
  guard ((0 : Int) ≤ t10_28 ∧ t10_28 < ((o2_30).length : Int)) (fair_division_single_f0_p34_p59 t10_28 kl_n_53 left_27 o1_29 (o2_30.set t10_28.toNat false) o3_62)
def fair_division_single_f0_p34_b53 (F : Nat) (a0_v_caps : List Int) (a0f0 : Int) (a0_v_x : List Int) (kl_n_53 : Bool → Int → (List Int) → (List Bool) → (List Int) → Option (Bool × (List Int) × (List Bool) × (List Int))) (left_27 : Bool) (t10_28 : Int) (o1_29 : List Int) (o2_30 : List Bool) (o3_31 : List Int) : Option (Bool × (List Int) × (List Bool) × (List Int)) :=
  bif decide (t10_28 < ((a0_v_x).length : Int)) then (guard ((0 : Int) ≤ t10_28 ∧ t10_28 < ((o2_30).length : Int)) (bif (!(o2_30.getD t10_28.toNat false)) then (fair_division_single_f0_p34_p59 t10_28 kl_n_53 left_27 o1_29 o2_30 o3_31) else (guard ((0 : Int) ≤ t10_28 ∧ t10_28 < ((o1_29).length : Int)) (guard ((0 : Int) ≤ t10_28 ∧ t10_28 < ((a0_v_caps).length : Int)) (bif decide (o1_29.getD t10_28.toNat 0 < a0_v_caps.getD t10_28.toNat 0) then (guard ((0 : Int) ≤ t10_28 ∧ t10_28 < ((copyL o3_31 0 ((o3_31).length) o1_29).length : Int)) (guard ((0 : Int) ≤ t10_28 ∧ t10_28 < ((copyL o3_31 0 ((o3_31).length) o1_29).length : Int)) ((chargenetlaw10_sum_1 F ((copyL o3_31 0 ((o3_31).length) o1_29).set t10_28.toNat (IntKind.wrap .i64 ((copyL o3_31 0 ((o3_31).length) o1_29).getD t10_28.toNat 0 + 1))) a0f0).bind fun c_70 => bif c_70 then (guard ((0 : Int) ≤ t10_28 ∧ t10_28 < ((o1_29).length : Int)) (guard ((0 : Int) ≤ t10_28 ∧ t10_28 < ((o1_29).length : Int)) (fair_division_single_f0_p34_p59 t10_28 kl_n_53 true (o1_29.set t10_28.toNat (IntKind.wrap .i64 (o1_29.getD t10_28.toNat 0 + 1))) o2_30 ((copyL o3_31 0 ((o3_31).length) o1_29).set t10_28.toNat (IntKind.wrap .i64 ((copyL o3_31 0 ((o3_31).length) o1_29).getD t10_28.toNat 0 + 1)))))) else (fair_division_single_f0_p34_p64 left_27 t10_28 o1_29 o2_30 kl_n_53 ((copyL o3_31 0 ((o3_31).length) o1_29).set t10_28.toNat (IntKind.wrap .i64 ((copyL o3_31 0 ((o3_31).length) o1_29).getD t10_28.toNat 0 + 1))))))) else (fair_division_single_f0_p34_p64 left_27 t10_28 o1_29 o2_30 kl_n_53 o3_31)))))) else (fair_division_single_f0_p34_p5 left_27 o1_29 o2_30 o3_31)
def fair_division_single_f0_p34_l53 (F : Nat) (a0_v_caps : List Int) (a0f0 : Int) (a0_v_x : List Int) : Nat → Bool → Int → (List Int) → (List Bool) → (List Int) → Option (Bool × (List Int) × (List Bool) × (List Int))
  | 0, _, _, _, _, _ => none
  | n + 1, left_27, t10_28, o1_29, o2_30, o3_31 => fair_division_single_f0_p34_b53 F a0_v_caps a0f0 a0_v_x (fun left_27 t10_28 o1_29 o2_30 o3_31 => fair_division_single_f0_p34_l53 F a0_v_caps a0f0 a0_v_x n left_27 t10_28 o1_29 o2_30 o3_31) left_27 t10_28 o1_29 o2_30 o3_31
def fair_division_single_f0_p34 (F : Nat) (a0_v_caps : List Int) (a0f0 : Int) (a0_v_x : List Int) (a0_v_active : List Bool) (a0_v_trial : List Int) : Option (Bool × (List Int) × (List Bool) × (List Int)) :=
  fair_division_single_f0_p34_l53 F a0_v_caps a0f0 a0_v_x F false 0 a0_v_x a0_v_active a0_v_trial
def fair_Fill_f1_34_p14 (o3_11 : List Int) (o4_12 : List Bool) (o5_13 : List Int) : Option ((List Int) × Int) :=
  some ((o3_11, 0))
def fair_Fill_f1_34_b31 (F : Nat) (a0_caps : List Int) (a1f0 : Int) (kl_n_31 : Int → (List Int) → (List Bool) → (List Int) → Option ((List Int) × Int)) (t48_21 : Int) (o3_22 : List Int) (o4_23 : List Bool) (o5_24 : List Int) : Option ((List Int) × Int) :=
  bif decide (t48_21 < ((a0_caps).length : Int)) then ((fair_division_together_f0_p34 F a0_caps a1f0 o3_22 o4_23 o5_24).bind fun c_33 => (fair_division_single_f0_p34 F a0_caps a1f0 c_33.1 o4_23 c_33.2).bind fun c_35 => bif (!c_35.1) then (fair_Fill_f1_34_p14 c_35.2.1 c_35.2.2.1 c_35.2.2.2) else (kl_n_31 (IntKind.wrap .i64 (t48_21 + 1)) c_35.2.1 c_35.2.2.1 c_35.2.2.2)) else (fair_Fill_f1_34_p14 o3_22 o4_23 o5_24)
def fair_Fill_f1_34_l31 (F : Nat) (a0_caps : List Int) (a1f0 : Int) : Nat → Int → (List Int) → (List Bool) → (List Int) → Option ((List Int) × Int)
  | 0, _, _, _, _ => none
  | n + 1, t48_21, o3_22, o4_23, o5_24 => fair_Fill_f1_34_b31 F a0_caps a1f0 (fun t48_21 o3_22 o4_23 o5_24 => fair_Fill_f1_34_l31 F a0_caps a1f0 n t48_21 o3_22 o4_23 o5_24) t48_21 o3_22 o4_23 o5_24
def fair_Fill_f1_34_p38 (F : Nat) (a0_caps : List Int) (a1f0 : Int) (o4_10 : List Bool) : Option ((List Int) × Int) :=
  fair_Fill_f1_34_l31 F a0_caps a1f0 F 0 (List.replicate (((a0_caps).length : Int)).toNat (0 : Int)) o4_10 (List.replicate (((a0_caps).length : Int)).toNat (0 : Int))
def fair_Fill_f1_34_b45 (F : Nat) (a0_caps : List Int) (a1f0 : Int) (kl_n_45 : Int → (List Bool) → Option ((List Int) × Int)) (t39_41 : Int) (o4_42 : List Bool) : Option ((List Int) × Int) :=
  bif decide (t39_41 < ((List.replicate (((a0_caps).length : Int)).toNat (false : Bool)).length : Int)) then (guard ((0 : Int) ≤ t39_41 ∧ t39_41 < ((o4_42).length : Int)) (kl_n_45 (IntKind.wrap .i64 (t39_41 + 1)) (o4_42.set t39_41.toNat true))) else (fair_Fill_f1_34_p38 F a0_caps a1f0 o4_42)
def fair_Fill_f1_34_l45 (F : Nat) (a0_caps : List Int) (a1f0 : Int) : Nat → Int → (List Bool) → Option ((List Int) × Int)
  | 0, _, _ => none
  | n + 1, t39_41, o4_42 => fair_Fill_f1_34_b45 F a0_caps a1f0 (fun t39_41 o4_42 => fair_Fill_f1_34_l45 F a0_caps a1f0 n t39_41 o4_42) t39_41 o4_42
def fair_Fill_f1_34 (F : Nat) (a0_caps : List Int) (a1f0 : Int) : Option ((List Int) × Int) :=
  (fair_check F a0_caps).bind fun c_1 => bif (!decide (c_1 = 0)) then (some (([], c_1))) else (guard ((0 : Int) ≤ ((a0_caps).length : Int) ∧ ((8 : Nat) : Int) * (((a0_caps).length : Int)) ≤ 281474976710656 ∧ (((a0_caps).length : Int) : Int) ≤ 281474976710656) (guard ((0 : Int) ≤ ((a0_caps).length : Int) ∧ ((1 : Nat) : Int) * (((a0_caps).length : Int)) ≤ 281474976710656 ∧ (((a0_caps).length : Int) : Int) ≤ 281474976710656) (guard ((0 : Int) ≤ ((a0_caps).length : Int) ∧ ((8 : Nat) : Int) * (((a0_caps).length : Int)) ≤ 281474976710656 ∧ (((a0_caps).length : Int) : Int) ≤ 281474976710656) ((chargenetlaw10_sum_1 F (List.replicate (((a0_caps).length : Int)).toNat (0 : Int)) a1f0).bind fun c_7 => bif (!c_7) then (some ((List.replicate (((a0_caps).length : Int)).toNat (0 : Int), 0))) else (fair_Fill_f1_34_l45 F a0_caps a1f0 F 0 (List.replicate (((a0_caps).length : Int)).toNat (false : Bool)))))))
def fair_below_p2 (sum_1 : Int) : Option Int :=
  some sum_1
def fair_below_b13 (F : Nat) (a0_m : Int) (a1_caps : List Int) (kl_n_13 : Int → Int → Option Int) (sum_7 : Int) (t10_8 : Int) : Option Int :=
  bif decide (t10_8 < ((a1_caps).length : Int)) then (guard ((0 : Int) ≤ t10_8 ∧ t10_8 < ((a1_caps).length : Int)) ((fair_least_int F a0_m ([a1_caps.getD t10_8.toNat 0])).bind fun c_16 => kl_n_13 (IntKind.wrap .i64 (sum_7 + c_16)) (IntKind.wrap .i64 (t10_8 + 1)))) else (fair_below_p2 sum_7)
def fair_below_l13 (F : Nat) (a0_m : Int) (a1_caps : List Int) : Nat → Int → Int → Option Int
  | 0, _, _ => none
  | n + 1, sum_7, t10_8 => fair_below_b13 F a0_m a1_caps (fun sum_7 t10_8 => fair_below_l13 F a0_m a1_caps n sum_7 t10_8) sum_7 t10_8
def fair_below (F : Nat) (a0_m : Int) (a1_caps : List Int) : Option Int :=
  fair_below_l13 F a0_m a1_caps F 0 0
def slices_Clone_int_int (F : Nat) (a0_s : List Int) : Option (List Int) :=
  guard (((([] : List Int)).length + (a0_s).length) * 8 ≤ 140737488355328 ∧ (([] : List Int)).length + (a0_s).length ≤ 140737488355328) (some ((([] : List Int)) ++ a0_s))
def fair_Share_p15 (o0_14 : List Int) : Option ((List Int) × Int) :=
  some ((o0_14, 0))
def fair_Share_p47 (t54_29 : Int) (kl_n_43 : Int → Int → (List Int) → Option ((List Int) × Int)) (rest_45 : Int) (o0_46 : List Int) : Option ((List Int) × Int) :=
  kl_n_43 rest_45 (IntKind.wrap .i64 (t54_29 + 1)) o0_46
def fair_Share_b43 (F : Nat) (a1_caps : List Int) (m_10 : Int) (kl_n_43 : Int → Int → (List Int) → Option ((List Int) × Int)) (rest_28 : Int) (t54_29 : Int) (o0_30 : List Int) : Option ((List Int) × Int) :=
  bif decide (t54_29 < ((a1_caps).length : Int)) then (guard ((0 : Int) ≤ t54_29 ∧ t54_29 < ((a1_caps).length : Int)) ((fair_least_int F m_10 ([a1_caps.getD t54_29.toNat 0])).bind fun c_49 => guard ((0 : Int) ≤ t54_29 ∧ t54_29 < ((o0_30).length : Int)) (bif decide (0 < rest_28) then (bif decide (m_10 < a1_caps.getD t54_29.toNat 0) then (guard ((0 : Int) ≤ t54_29 ∧ t54_29 < ((o0_30.set t54_29.toNat c_49).length : Int)) (guard ((0 : Int) ≤ t54_29 ∧ t54_29 < ((o0_30.set t54_29.toNat c_49).length : Int)) (fair_Share_p47 t54_29 kl_n_43 (IntKind.wrap .i64 (rest_28 - 1)) ((o0_30.set t54_29.toNat c_49).set t54_29.toNat (IntKind.wrap .i64 ((o0_30.set t54_29.toNat c_49).getD t54_29.toNat 0 + 1)))))) else (fair_Share_p47 t54_29 kl_n_43 rest_28 (o0_30.set t54_29.toNat c_49))) else (fair_Share_p47 t54_29 kl_n_43 rest_28 (o0_30.set t54_29.toNat c_49))))) else (fair_Share_p15 o0_30)
def fair_Share_l43 (F : Nat) (a1_caps : List Int) (m_10 : Int) : Nat → Int → Int → (List Int) → Option ((List Int) × Int)
  | 0, _, _, _ => none
  | n + 1, rest_28, t54_29, o0_30 => fair_Share_b43 F a1_caps m_10 (fun rest_28 t54_29 o0_30 => fair_Share_l43 F a1_caps m_10 n rest_28 t54_29 o0_30) rest_28 t54_29 o0_30
def fair_Share_p56 (F : Nat) (a0_total : Int) (a1_caps : List Int) (m_10 : Int) : Option ((List Int) × Int) :=
  (fair_below F m_10 a1_caps).bind fun c_11 => guard ((0 : Int) ≤ ((a1_caps).length : Int) ∧ ((8 : Nat) : Int) * (((a1_caps).length : Int)) ≤ 281474976710656 ∧ (((a1_caps).length : Int) : Int) ≤ 281474976710656) (fair_Share_l43 F a1_caps m_10 F (IntKind.wrap .i64 (a0_total - c_11)) 0 (List.replicate (((a1_caps).length : Int)).toNat (0 : Int)))
def fair_Share_b68 (F : Nat) (a0_total : Int) (a1_caps : List Int) (kl_n_68 : Int → Int → Option ((List Int) × Int)) (m_62 : Int) (bad_63 : Int) : Option ((List Int) × Int) :=
  bif decide (1 < IntKind.wrap .i64 (bad_63 - m_62)) then ((fair_below F (IntKind.wrap .i64 (m_62 + IntKind.wrap .i64 (Int.tdiv (IntKind.wrap .i64 (bad_63 - m_62)) 2))) a1_caps).bind fun c_70 => bif decide (c_70 ≤ a0_total) then (kl_n_68 (IntKind.wrap .i64 (m_62 + IntKind.wrap .i64 (Int.tdiv (IntKind.wrap .i64 (bad_63 - m_62)) 2))) bad_63) else (kl_n_68 m_62 (IntKind.wrap .i64 (m_62 + IntKind.wrap .i64 (Int.tdiv (IntKind.wrap .i64 (bad_63 - m_62)) 2))))) else (fair_Share_p56 F a0_total a1_caps m_62)
def fair_Share_l68 (F : Nat) (a0_total : Int) (a1_caps : List Int) : Nat → Int → Int → Option ((List Int) × Int)
  | 0, _, _ => none
  | n + 1, m_62, bad_63 => fair_Share_b68 F a0_total a1_caps (fun m_62 bad_63 => fair_Share_l68 F a0_total a1_caps n m_62 bad_63) m_62 bad_63
def fair_Share (F : Nat) (a0_total : Int) (a1_caps : List Int) : Option ((List Int) × Int) :=
  bif decide (a0_total < 0) then (some (([], 2))) else ((fair_check F a1_caps).bind fun c_2 => bif (!decide (c_2 = 0)) then (some (([], c_2))) else ((fair_below F 1099511627776 a1_caps).bind fun c_5 => bif decide (c_5 ≤ a0_total) then ((slices_Clone_int_int F a1_caps).bind fun c_8 => some ((c_8, 0))) else (fair_Share_l68 F a0_total a1_caps F 0 1099511627776)))
def fair_Fill_f1_nil (F : Nat) (a0_caps : List Int) : Option ((List Int) × Int) :=
  some (([], 1))
def chargenetlaw10_exampleHolds_1 (F : Nat) (a0_l : List Int) : Option Bool :=
  bif decide (((a0_l).length : Int) = 2) then (guard ((0 : Int) ≤ 0 ∧ 0 < ((a0_l).length : Int)) (bif decide (a0_l.getD (0 : Int).toNat 0 ≤ 2) then (guard ((0 : Int) ≤ 0 ∧ 0 < ((a0_l).length : Int)) (guard ((0 : Int) ≤ 1 ∧ 1 < ((a0_l).length : Int)) (some (decide (IntKind.wrap .i64 (a0_l.getD (0 : Int).toNat 0 + a0_l.getD (1 : Int).toNat 0) ≤ 6))))) else (some false))) else (some false)
def fair_division_raise_f0_pr21_p28 (t11_11 : Int) (o3_12 : List Int) (kl_n_23 : Int → (List Int) → Option (List Int)) (n_26 : Int) : Option (List Int) :=
  guard ((0 : Int) ≤ t11_11 ∧ t11_11 < ((o3_12).length : Int)) (kl_n_23 (IntKind.wrap .i64 (t11_11 + 1)) (o3_12.set t11_11.toNat n_26))
def fair_division_raise_f0_pr21_b23 (F : Nat) (a0_v_caps : List Int) (a0_v_x : List Int) (a0_v_active : List Bool) (a1_d : Int) (kl_n_23 : Int → (List Int) → Option (List Int)) (t11_11 : Int) (o3_12 : List Int) : Option (List Int) :=
  bif decide (t11_11 < ((a0_v_x).length : Int)) then (guard ((0 : Int) ≤ t11_11 ∧ t11_11 < ((a0_v_x).length : Int)) (guard ((0 : Int) ≤ t11_11 ∧ t11_11 < ((a0_v_active).length : Int)) (bif a0_v_active.getD t11_11.toNat false then (guard ((0 : Int) ≤ t11_11 ∧ t11_11 < ((a0_v_caps).length : Int)) ((fair_least_int F (IntKind.wrap .i64 (a0_v_x.getD t11_11.toNat 0 + a1_d)) ([a0_v_caps.getD t11_11.toNat 0])).bind fun c_32 => fair_division_raise_f0_pr21_p28 t11_11 o3_12 kl_n_23 c_32)) else (fair_division_raise_f0_pr21_p28 t11_11 o3_12 kl_n_23 (a0_v_x.getD t11_11.toNat 0))))) else (some o3_12)
def fair_division_raise_f0_pr21_l23 (F : Nat) (a0_v_caps : List Int) (a0_v_x : List Int) (a0_v_active : List Bool) (a1_d : Int) : Nat → Int → (List Int) → Option (List Int)
  | 0, _, _ => none
  | n + 1, t11_11, o3_12 => fair_division_raise_f0_pr21_b23 F a0_v_caps a0_v_x a0_v_active a1_d (fun t11_11 o3_12 => fair_division_raise_f0_pr21_l23 F a0_v_caps a0_v_x a0_v_active a1_d n t11_11 o3_12) t11_11 o3_12
def fair_division_raise_f0_pr21 (F : Nat) (a0_v_caps : List Int) (a0_v_x : List Int) (a0_v_active : List Bool) (a0_v_trial : List Int) (a1_d : Int) : Option (List Int) :=
  fair_division_raise_f0_pr21_l23 F a0_v_caps a0_v_x a0_v_active a1_d F 0 a0_v_trial
def fair_division_raisable_f0_pr21 (F : Nat) (a0_v_caps : List Int) (a0_v_x : List Int) (a0_v_active : List Bool) (a0_v_trial : List Int) (a1_d : Int) : Option (Bool × (List Int)) :=
  (fair_division_raise_f0_pr21 F a0_v_caps a0_v_x a0_v_active a0_v_trial a1_d).bind fun c_1 => (chargenetlaw10_exampleHolds_1 F c_1).bind fun c_3 => some ((c_3, c_1))
def fair_division_together_f0_pr21_p6 (F : Nat) (a0_v_caps : List Int) (a0_v_x : List Int) (a0_v_active : List Bool) (d_2 : Int) (o3_3 : List Int) : Option ((List Int) × (List Int)) :=
  (fair_division_raise_f0_pr21 F a0_v_caps a0_v_x a0_v_active o3_3 d_2).bind fun c_4 => some ((copyL a0_v_x 0 ((a0_v_x).length) c_4, c_4))
def fair_division_together_f0_pr21_b23 (F : Nat) (a0_v_caps : List Int) (a0_v_x : List Int) (a0_v_active : List Bool) (kl_n_23 : Int → Int → (List Int) → Option ((List Int) × (List Int))) (d_16 : Int) (bad_17 : Int) (o3_18 : List Int) : Option ((List Int) × (List Int)) :=
  bif decide (1 < IntKind.wrap .i64 (bad_17 - d_16)) then ((fair_division_raisable_f0_pr21 F a0_v_caps a0_v_x a0_v_active o3_18 (IntKind.wrap .i64 (d_16 + IntKind.wrap .i64 (Int.tdiv (IntKind.wrap .i64 (bad_17 - d_16)) 2)))).bind fun c_25 => bif c_25.1 then (kl_n_23 (IntKind.wrap .i64 (d_16 + IntKind.wrap .i64 (Int.tdiv (IntKind.wrap .i64 (bad_17 - d_16)) 2))) bad_17 c_25.2) else (kl_n_23 d_16 (IntKind.wrap .i64 (d_16 + IntKind.wrap .i64 (Int.tdiv (IntKind.wrap .i64 (bad_17 - d_16)) 2))) c_25.2)) else (fair_division_together_f0_pr21_p6 F a0_v_caps a0_v_x a0_v_active d_16 o3_18)
def fair_division_together_f0_pr21_l23 (F : Nat) (a0_v_caps : List Int) (a0_v_x : List Int) (a0_v_active : List Bool) : Nat → Int → Int → (List Int) → Option ((List Int) × (List Int))
  | 0, _, _, _ => none
  | n + 1, d_16, bad_17, o3_18 => fair_division_together_f0_pr21_b23 F a0_v_caps a0_v_x a0_v_active (fun d_16 bad_17 o3_18 => fair_division_together_f0_pr21_l23 F a0_v_caps a0_v_x a0_v_active n d_16 bad_17 o3_18) d_16 bad_17 o3_18
def fair_division_together_f0_pr21_p28 (F : Nat) (a0_v_caps : List Int) (a0_v_x : List Int) (a0_v_active : List Bool) (most_1 : Int) (t45_7 : Bool) (o3_8 : List Int) : Option ((List Int) × (List Int)) :=
  bif t45_7 then (fair_division_together_f0_pr21_l23 F a0_v_caps a0_v_x a0_v_active F 0 most_1 o3_8) else (fair_division_together_f0_pr21_p6 F a0_v_caps a0_v_x a0_v_active most_1 o3_8)
def fair_division_together_f0_pr21_p32 (F : Nat) (a0_v_caps : List Int) (a0_v_x : List Int) (a0_v_active : List Bool) (a0_v_trial : List Int) (most_1 : Int) : Option ((List Int) × (List Int)) :=
  bif decide (0 < most_1) then ((fair_division_raisable_f0_pr21 F a0_v_caps a0_v_x a0_v_active a0_v_trial most_1).bind fun c_30 => fair_division_together_f0_pr21_p28 F a0_v_caps a0_v_x a0_v_active most_1 ((!c_30.1)) c_30.2) else (fair_division_together_f0_pr21_p28 F a0_v_caps a0_v_x a0_v_active most_1 false a0_v_trial)
def fair_division_together_f0_pr21_p52 (t13_41 : Int) (kl_n_49 : Int → Int → Option ((List Int) × (List Int))) (most_51 : Int) : Option ((List Int) × (List Int)) :=
  kl_n_49 most_51 (IntKind.wrap .i64 (t13_41 + 1))
def fair_division_together_f0_pr21_b49 (F : Nat) (a0_v_caps : List Int) (a0_v_x : List Int) (a0_v_active : List Bool) (a0_v_trial : List Int) (kl_n_49 : Int → Int → Option ((List Int) × (List Int))) (most_40 : Int) (t13_41 : Int) : Option ((List Int) × (List Int)) :=
  bif decide (t13_41 < ((a0_v_x).length : Int)) then (guard ((0 : Int) ≤ t13_41 ∧ t13_41 < ((a0_v_x).length : Int)) (guard ((0 : Int) ≤ t13_41 ∧ t13_41 < ((a0_v_active).length : Int)) (bif a0_v_active.getD t13_41.toNat false then (guard ((0 : Int) ≤ t13_41 ∧ t13_41 < ((a0_v_caps).length : Int)) (fair_division_together_f0_pr21_p52 t13_41 kl_n_49 ((if most_40 < IntKind.wrap .i64 (a0_v_caps.getD t13_41.toNat 0 - a0_v_x.getD t13_41.toNat 0) then IntKind.wrap .i64 (a0_v_caps.getD t13_41.toNat 0 - a0_v_x.getD t13_41.toNat 0) else most_40)))) else (fair_division_together_f0_pr21_p52 t13_41 kl_n_49 most_40)))) else (fair_division_together_f0_pr21_p32 F a0_v_caps a0_v_x a0_v_active a0_v_trial most_40)
def fair_division_together_f0_pr21_l49 (F : Nat) (a0_v_caps : List Int) (a0_v_x : List Int) (a0_v_active : List Bool) (a0_v_trial : List Int) : Nat → Int → Int → Option ((List Int) × (List Int))
  | 0, _, _ => none
  | n + 1, most_40, t13_41 => fair_division_together_f0_pr21_b49 F a0_v_caps a0_v_x a0_v_active a0_v_trial (fun most_40 t13_41 => fair_division_together_f0_pr21_l49 F a0_v_caps a0_v_x a0_v_active a0_v_trial n most_40 t13_41) most_40 t13_41
def fair_division_together_f0_pr21 (F : Nat) (a0_v_caps : List Int) (a0_v_x : List Int) (a0_v_active : List Bool) (a0_v_trial : List Int) : Option ((List Int) × (List Int)) :=
  fair_division_together_f0_pr21_l49 F a0_v_caps a0_v_x a0_v_active a0_v_trial F 0 0
def fair_division_single_f0_pr21_p5 (left_1 : Bool) (o1_2 : List Int) (o2_3 : List Bool) (o3_4 : List Int) : Option (Bool × (List Int) × (List Bool) × (List Int)) :=
  some ((left_1, o1_2, o2_3, o3_4))
def fair_division_single_f0_pr21_p59 (t10_28 : Int) (kl_n_53 : Bool → Int → (List Int) → (List Bool) → (List Int) → Option (Bool × (List Int) × (List Bool) × (List Int))) (left_55 : Bool) (o1_56 : List Int) (o2_58 : List Bool) (o3_57 : List Int) : Option (Bool × (List Int) × (List Bool) × (List Int)) :=
  kl_n_53 left_55 (IntKind.wrap .i64 (t10_28 + 1)) o1_56 o2_58 o3_57
def fair_division_single_f0_pr21_p64 (left_27 : Bool) (t10_28 : Int) (o1_29 : List Int) (o2_30 : List Bool) (kl_n_53 : Bool → Int → (List Int) → (List Bool) → (List Int) → Option (Bool × (List Int) × (List Bool) × (List Int))) (o3_62 : List Int) : Option (Bool × (List Int) × (List Bool) × (List Int)) :=
  guard ((0 : Int) ≤ t10_28 ∧ t10_28 < ((o2_30).length : Int)) (fair_division_single_f0_pr21_p59 t10_28 kl_n_53 left_27 o1_29 (o2_30.set t10_28.toNat false) o3_62)
def fair_division_single_f0_pr21_b53 (F : Nat) (a0_v_caps : List Int) (a0_v_x : List Int) (kl_n_53 : Bool → Int → (List Int) → (List Bool) → (List Int) → Option (Bool × (List Int) × (List Bool) × (List Int))) (left_27 : Bool) (t10_28 : Int) (o1_29 : List Int) (o2_30 : List Bool) (o3_31 : List Int) : Option (Bool × (List Int) × (List Bool) × (List Int)) :=
  bif decide (t10_28 < ((a0_v_x).length : Int)) then (guard ((0 : Int) ≤ t10_28 ∧ t10_28 < ((o2_30).length : Int)) (bif (!(o2_30.getD t10_28.toNat false)) then (fair_division_single_f0_pr21_p59 t10_28 kl_n_53 left_27 o1_29 o2_30 o3_31) else (guard ((0 : Int) ≤ t10_28 ∧ t10_28 < ((o1_29).length : Int)) (guard ((0 : Int) ≤ t10_28 ∧ t10_28 < ((a0_v_caps).length : Int)) (bif decide (o1_29.getD t10_28.toNat 0 < a0_v_caps.getD t10_28.toNat 0) then (guard ((0 : Int) ≤ t10_28 ∧ t10_28 < ((copyL o3_31 0 ((o3_31).length) o1_29).length : Int)) (guard ((0 : Int) ≤ t10_28 ∧ t10_28 < ((copyL o3_31 0 ((o3_31).length) o1_29).length : Int)) ((chargenetlaw10_exampleHolds_1 F ((copyL o3_31 0 ((o3_31).length) o1_29).set t10_28.toNat (IntKind.wrap .i64 ((copyL o3_31 0 ((o3_31).length) o1_29).getD t10_28.toNat 0 + 1)))).bind fun c_70 => bif c_70 then (guard ((0 : Int) ≤ t10_28 ∧ t10_28 < ((o1_29).length : Int)) (guard ((0 : Int) ≤ t10_28 ∧ t10_28 < ((o1_29).length : Int)) (fair_division_single_f0_pr21_p59 t10_28 kl_n_53 true (o1_29.set t10_28.toNat (IntKind.wrap .i64 (o1_29.getD t10_28.toNat 0 + 1))) o2_30 ((copyL o3_31 0 ((o3_31).length) o1_29).set t10_28.toNat (IntKind.wrap .i64 ((copyL o3_31 0 ((o3_31).length) o1_29).getD t10_28.toNat 0 + 1)))))) else (fair_division_single_f0_pr21_p64 left_27 t10_28 o1_29 o2_30 kl_n_53 ((copyL o3_31 0 ((o3_31).length) o1_29).set t10_28.toNat (IntKind.wrap .i64 ((copyL o3_31 0 ((o3_31).length) o1_29).getD t10_28.toNat 0 + 1))))))) else (fair_division_single_f0_pr21_p64 left_27 t10_28 o1_29 o2_30 kl_n_53 o3_31)))))) else (fair_division_single_f0_pr21_p5 left_27 o1_29 o2_30 o3_31)
def fair_division_single_f0_pr21_l53 (F : Nat) (a0_v_caps : List Int) (a0_v_x : List Int) : Nat → Bool → Int → (List Int) → (List Bool) → (List Int) → Option (Bool × (List Int) × (List Bool) × (List Int))
  | 0, _, _, _, _, _ => none
  | n + 1, left_27, t10_28, o1_29, o2_30, o3_31 => fair_division_single_f0_pr21_b53 F a0_v_caps a0_v_x (fun left_27 t10_28 o1_29 o2_30 o3_31 => fair_division_single_f0_pr21_l53 F a0_v_caps a0_v_x n left_27 t10_28 o1_29 o2_30 o3_31) left_27 t10_28 o1_29 o2_30 o3_31
def fair_division_single_f0_pr21 (F : Nat) (a0_v_caps : List Int) (a0_v_x : List Int) (a0_v_active : List Bool) (a0_v_trial : List Int) : Option (Bool × (List Int) × (List Bool) × (List Int)) :=
  fair_division_single_f0_pr21_l53 F a0_v_caps a0_v_x F false 0 a0_v_x a0_v_active a0_v_trial
def fair_Fill_f1_r21_p14 (o3_11 : List Int) (o4_12 : List Bool) (o5_13 : List Int) : Option ((List Int) × Int) :=
  some ((o3_11, 0))
def fair_Fill_f1_r21_b31 (F : Nat) (a0_caps : List Int) (kl_n_31 : Int → (List Int) → (List Bool) → (List Int) → Option ((List Int) × Int)) (t48_21 : Int) (o3_22 : List Int) (o4_23 : List Bool) (o5_24 : List Int) : Option ((List Int) × Int) :=
  bif decide (t48_21 < ((a0_caps).length : Int)) then ((fair_division_together_f0_pr21 F a0_caps o3_22 o4_23 o5_24).bind fun c_33 => (fair_division_single_f0_pr21 F a0_caps c_33.1 o4_23 c_33.2).bind fun c_35 => bif (!c_35.1) then (fair_Fill_f1_r21_p14 c_35.2.1 c_35.2.2.1 c_35.2.2.2) else (kl_n_31 (IntKind.wrap .i64 (t48_21 + 1)) c_35.2.1 c_35.2.2.1 c_35.2.2.2)) else (fair_Fill_f1_r21_p14 o3_22 o4_23 o5_24)
def fair_Fill_f1_r21_l31 (F : Nat) (a0_caps : List Int) : Nat → Int → (List Int) → (List Bool) → (List Int) → Option ((List Int) × Int)
  | 0, _, _, _, _ => none
  | n + 1, t48_21, o3_22, o4_23, o5_24 => fair_Fill_f1_r21_b31 F a0_caps (fun t48_21 o3_22 o4_23 o5_24 => fair_Fill_f1_r21_l31 F a0_caps n t48_21 o3_22 o4_23 o5_24) t48_21 o3_22 o4_23 o5_24
def fair_Fill_f1_r21_p38 (F : Nat) (a0_caps : List Int) (o4_10 : List Bool) : Option ((List Int) × Int) :=
  fair_Fill_f1_r21_l31 F a0_caps F 0 (List.replicate (((a0_caps).length : Int)).toNat (0 : Int)) o4_10 (List.replicate (((a0_caps).length : Int)).toNat (0 : Int))
def fair_Fill_f1_r21_b45 (F : Nat) (a0_caps : List Int) (kl_n_45 : Int → (List Bool) → Option ((List Int) × Int)) (t39_41 : Int) (o4_42 : List Bool) : Option ((List Int) × Int) :=
  bif decide (t39_41 < ((List.replicate (((a0_caps).length : Int)).toNat (false : Bool)).length : Int)) then (guard ((0 : Int) ≤ t39_41 ∧ t39_41 < ((o4_42).length : Int)) (kl_n_45 (IntKind.wrap .i64 (t39_41 + 1)) (o4_42.set t39_41.toNat true))) else (fair_Fill_f1_r21_p38 F a0_caps o4_42)
def fair_Fill_f1_r21_l45 (F : Nat) (a0_caps : List Int) : Nat → Int → (List Bool) → Option ((List Int) × Int)
  | 0, _, _ => none
  | n + 1, t39_41, o4_42 => fair_Fill_f1_r21_b45 F a0_caps (fun t39_41 o4_42 => fair_Fill_f1_r21_l45 F a0_caps n t39_41 o4_42) t39_41 o4_42
def fair_Fill_f1_r21 (F : Nat) (a0_caps : List Int) : Option ((List Int) × Int) :=
  (fair_check F a0_caps).bind fun c_1 => bif (!decide (c_1 = 0)) then (some (([], c_1))) else (guard ((0 : Int) ≤ ((a0_caps).length : Int) ∧ ((8 : Nat) : Int) * (((a0_caps).length : Int)) ≤ 281474976710656 ∧ (((a0_caps).length : Int) : Int) ≤ 281474976710656) (guard ((0 : Int) ≤ ((a0_caps).length : Int) ∧ ((1 : Nat) : Int) * (((a0_caps).length : Int)) ≤ 281474976710656 ∧ (((a0_caps).length : Int) : Int) ≤ 281474976710656) (guard ((0 : Int) ≤ ((a0_caps).length : Int) ∧ ((8 : Nat) : Int) * (((a0_caps).length : Int)) ≤ 281474976710656 ∧ (((a0_caps).length : Int) : Int) ≤ 281474976710656) ((chargenetlaw10_exampleHolds_1 F (List.replicate (((a0_caps).length : Int)).toNat (0 : Int))).bind fun c_7 => bif (!c_7) then (some ((List.replicate (((a0_caps).length : Int)).toNat (0 : Int), 0))) else (fair_Fill_f1_r21_l45 F a0_caps F 0 (List.replicate (((a0_caps).length : Int)).toNat (false : Bool)))))))
def slices_Equal_int_int_p2  : Option Bool :=
  some true
def slices_Equal_int_int_b12 (a0_s1 : List Int) (a1_s2 : List Int) (kl_n_12 : Int → Option Bool) (t13_7 : Int) : Option Bool :=
  bif decide (t13_7 < ((a0_s1).length : Int)) then (guard ((0 : Int) ≤ t13_7 ∧ t13_7 < ((a0_s1).length : Int)) (guard ((0 : Int) ≤ t13_7 ∧ t13_7 < ((a1_s2).length : Int)) (bif (!decide (a0_s1.getD t13_7.toNat 0 = a1_s2.getD t13_7.toNat 0)) then (some false) else (kl_n_12 (IntKind.wrap .i64 (t13_7 + 1)))))) else (slices_Equal_int_int_p2)
def slices_Equal_int_int_l12 (a0_s1 : List Int) (a1_s2 : List Int) : Nat → Int → Option Bool
  | 0, _ => none
  | n + 1, t13_7 => slices_Equal_int_int_b12 a0_s1 a1_s2 (fun t13_7 => slices_Equal_int_int_l12 a0_s1 a1_s2 n t13_7) t13_7
def slices_Equal_int_int (F : Nat) (a0_s1 : List Int) (a1_s2 : List Int) : Option Bool :=
  bif (!decide (((a0_s1).length : Int) = ((a1_s2).length : Int))) then (some false) else (slices_Equal_int_int_l12 a0_s1 a1_s2 F 0)
def slices_Values_int_int (F : Nat) (a0_s : List Int) : Option ((List Int)) :=
  some a0_s
def slices_AppendSeq_int_int_f1_38_own (F : Nat) (a1f0 : List Int) : Option (List Int) :=
  guard (a1f0.length * 8 ≤ 140737488351232) (some a1f0)
def slices_Collect_int_f0_38_own (F : Nat) (a0f0 : List Int) : Option (List Int) :=
  (slices_AppendSeq_int_int_f1_38_own F a0f0).bind fun c_1 => some c_1
def slices_Sort_int_int (F : Nat) (a0_x : List Int) : Option (List Int) :=
  guard (a0_x.length < 4611686018427387904) (some (sortI a0_x))
def slices_Sorted_int_f0_38 (F : Nat) (a0f0 : List Int) : Option (List Int) :=
  (slices_Collect_int_f0_38_own F a0f0).bind fun c_1 => (slices_Sort_int_int F c_1).bind fun c_3 => guard (c_3.length = c_1.length) (some c_3)
def cmp_isNaN_int (F : Nat) (a0_x : Int) : Option Bool :=
  some ((!decide (a0_x = a0_x)))
def cmp_Compare_int (F : Nat) (a0_x : Int) (a1_y : Int) : Option Int :=
  (cmp_isNaN_int F a0_x).bind fun c_1 => (cmp_isNaN_int F a1_y).bind fun c_3 => bif c_1 then (bif c_3 then (some 0) else (some ((-1)))) else (bif c_3 then (some 1) else (bif decide (a0_x < a1_y) then (some ((-1))) else (bif decide (a1_y < a0_x) then (some 1) else (some 0))))
def slices_Compare_int_int_p2 (a0_s1 : List Int) (a1_s2 : List Int) : Option Int :=
  bif decide (((a0_s1).length : Int) < ((a1_s2).length : Int)) then (some ((-1))) else (some 0)
def slices_Compare_int_int_b18 (F : Nat) (a0_s1 : List Int) (a1_s2 : List Int) (kl_n_18 : Int → Option Int) (t11_10 : Int) : Option Int :=
  bif decide (t11_10 < ((a0_s1).length : Int)) then (guard ((0 : Int) ≤ t11_10 ∧ t11_10 < ((a0_s1).length : Int)) (bif decide (((a1_s2).length : Int) ≤ t11_10) then (some 1) else (guard ((0 : Int) ≤ t11_10 ∧ t11_10 < ((a1_s2).length : Int)) ((cmp_Compare_int F (a0_s1.getD t11_10.toNat 0) (a1_s2.getD t11_10.toNat 0)).bind fun c_23 => bif (!decide (c_23 = 0)) then (some c_23) else (kl_n_18 (IntKind.wrap .i64 (t11_10 + 1))))))) else (slices_Compare_int_int_p2 a0_s1 a1_s2)
def slices_Compare_int_int_l18 (F : Nat) (a0_s1 : List Int) (a1_s2 : List Int) : Nat → Int → Option Int
  | 0, _ => none
  | n + 1, t11_10 => slices_Compare_int_int_b18 F a0_s1 a1_s2 (fun t11_10 => slices_Compare_int_int_l18 F a0_s1 a1_s2 n t11_10) t11_10
def slices_Compare_int_int (F : Nat) (a0_s1 : List Int) (a1_s2 : List Int) : Option Int :=
  slices_Compare_int_int_l18 F a0_s1 a1_s2 F 0
def fair_Compare (F : Nat) (a0_a : List Int) (a1_b : List Int) : Option Int :=
  (slices_Values_int_int F a0_a).bind fun c_1 => (slices_Sorted_int_f0_38 F c_1).bind fun c_3 => (slices_Values_int_int F a1_b).bind fun c_5 => (slices_Sorted_int_f0_38 F c_5).bind fun c_7 => (slices_Compare_int_int F c_3 c_7).bind fun c_9 => some c_9
def chargenetlaw10_exampleHolds (F : Nat)  : Option Bool :=
  (chargenetlaw10_sum F 16).bind fun c_1 => (fair_Fill_f1_34 F ([10, 10, 3]) c_1).bind fun c_3 => (fair_Share F 16 ([10, 10, 3])).bind fun c_5 => (fair_Share F 100 ([10, 10, 3])).bind fun c_7 => (fair_Fill_f1_nil F ([10, 10, 3])).bind fun c_9 => (fair_Fill_f1_r21 F ([5, 5])).bind fun c_11 => (slices_Equal_int_int F c_3.1 ([7, 6, 3])).bind fun c_13 => bif c_13 then (bif decide (c_3.2 = 0) then ((slices_Equal_int_int F c_5.1 c_3.1).bind fun c_17 => bif c_17 then (bif decide (c_5.2 = 0) then ((slices_Equal_int_int F c_7.1 ([10, 10, 3])).bind fun c_21 => bif c_21 then (bif decide (c_9.2 = 1) then ((slices_Equal_int_int F c_11.1 ([2, 4])).bind fun c_25 => bif c_25 then (bif decide (c_11.2 = 0) then ((fair_Compare F ([7, 6, 3]) ([8, 5, 3])).bind fun c_29 => some (decide (c_29 = 1))) else (some false)) else (some false)) else (some false)) else (some false)) else (some false)) else (some false)) else (some false)) else (some false)
def chargenetref10_Right_p2  : Option Int :=
  some 0
def chargenetref10_Right_b14 (a0_caps : List Int) (kl_n_14 : Int → Option Int) (i_8 : Int) : Option Int :=
  bif decide (i_8 < ((a0_caps).length : Int)) then (guard ((0 : Int) ≤ i_8 ∧ i_8 < ((a0_caps).length : Int)) (bif decide (a0_caps.getD i_8.toNat 0 < 0) then (some 2) else (guard ((0 : Int) ≤ i_8 ∧ i_8 < ((a0_caps).length : Int)) (bif decide (1099511627776 < a0_caps.getD i_8.toNat 0) then (some 2) else (kl_n_14 (IntKind.wrap .i64 (i_8 + 1))))))) else (chargenetref10_Right_p2)
def chargenetref10_Right_l14 (a0_caps : List Int) : Nat → Int → Option Int
  | 0, _ => none
  | n + 1, i_8 => chargenetref10_Right_b14 a0_caps (fun i_8 => chargenetref10_Right_l14 a0_caps n i_8) i_8
def chargenetref10_Right (F : Nat) (a0_caps : List Int) : Option Int :=
  bif decide (64 < ((a0_caps).length : Int)) then (some 3) else (chargenetref10_Right_l14 a0_caps F 0)
def chargenetref10_level_p2 (n_1 : Int) : Option Int :=
  some n_1
def chargenetref10_level_b9 (a0_caps : List Int) (a1_m : Int) (kl_n_9 : Int → Int → Option Int) (n_5 : Int) (i_6 : Int) : Option Int :=
  bif decide (i_6 < ((a0_caps).length : Int)) then (guard ((0 : Int) ≤ i_6 ∧ i_6 < ((a0_caps).length : Int)) (kl_n_9 (IntKind.wrap .i64 (n_5 + (if a0_caps.getD i_6.toNat 0 < a1_m then a0_caps.getD i_6.toNat 0 else a1_m))) (IntKind.wrap .i64 (i_6 + 1)))) else (chargenetref10_level_p2 n_5)
def chargenetref10_level_l9 (a0_caps : List Int) (a1_m : Int) : Nat → Int → Int → Option Int
  | 0, _, _ => none
  | n + 1, n_5, i_6 => chargenetref10_level_b9 a0_caps a1_m (fun n_5 i_6 => chargenetref10_level_l9 a0_caps a1_m n n_5 i_6) n_5 i_6
def chargenetref10_level (F : Nat) (a0_caps : List Int) (a1_m : Int) : Option Int :=
  chargenetref10_level_l9 a0_caps a1_m F 0 0
def chargenetref10_Share_p13 (o0_12 : List Int) : Option ((List Int) × Int) :=
  some ((o0_12, 0))
def chargenetref10_Share_p41 (i_24 : Int) (o0_25 : List Int) (kl_n_35 : Int → Int → (List Int) → Option ((List Int) × Int)) (rest_38 : Int) (n_39 : Int) : Option ((List Int) × Int) :=
  guard (((o0_25).length + ([n_39]).length) * 8 ≤ 140737488355328 ∧ (o0_25).length + ([n_39]).length ≤ 140737488355328) (kl_n_35 rest_38 (IntKind.wrap .i64 (i_24 + 1)) (o0_25 ++ ([n_39])))
def chargenetref10_Share_b35 (a1_caps : List Int) (m_9 : Int) (kl_n_35 : Int → Int → (List Int) → Option ((List Int) × Int)) (rest_23 : Int) (i_24 : Int) (o0_25 : List Int) : Option ((List Int) × Int) :=
  bif decide (i_24 < ((a1_caps).length : Int)) then (guard ((0 : Int) ≤ i_24 ∧ i_24 < ((a1_caps).length : Int)) (guard ((0 : Int) ≤ i_24 ∧ i_24 < ((a1_caps).length : Int)) (bif decide (m_9 < a1_caps.getD i_24.toNat 0) then (bif decide (0 < rest_23) then (chargenetref10_Share_p41 i_24 o0_25 kl_n_35 (IntKind.wrap .i64 (rest_23 - 1)) (IntKind.wrap .i64 ((if a1_caps.getD i_24.toNat 0 < m_9 then a1_caps.getD i_24.toNat 0 else m_9) + 1))) else (chargenetref10_Share_p41 i_24 o0_25 kl_n_35 rest_23 ((if a1_caps.getD i_24.toNat 0 < m_9 then a1_caps.getD i_24.toNat 0 else m_9)))) else (chargenetref10_Share_p41 i_24 o0_25 kl_n_35 rest_23 ((if a1_caps.getD i_24.toNat 0 < m_9 then a1_caps.getD i_24.toNat 0 else m_9)))))) else (chargenetref10_Share_p13 o0_25)
def chargenetref10_Share_l35 (a1_caps : List Int) (m_9 : Int) : Nat → Int → Int → (List Int) → Option ((List Int) × Int)
  | 0, _, _, _ => none
  | n + 1, rest_23, i_24, o0_25 => chargenetref10_Share_b35 a1_caps m_9 (fun rest_23 i_24 o0_25 => chargenetref10_Share_l35 a1_caps m_9 n rest_23 i_24 o0_25) rest_23 i_24 o0_25
def chargenetref10_Share_p45 (F : Nat) (a0_total : Int) (a1_caps : List Int) (m_9 : Int) : Option ((List Int) × Int) :=
  (chargenetref10_level F a1_caps m_9).bind fun c_10 => chargenetref10_Share_l35 a1_caps m_9 F (IntKind.wrap .i64 (a0_total - c_10)) 0 (([] : List Int))
def chargenetref10_Share_p63 (step_53 : Int) (kl_n_60 : Int → Int → Option ((List Int) × Int)) (m_62 : Int) : Option ((List Int) × Int) :=
  kl_n_60 m_62 (IntKind.wrap .i64 (Int.tdiv step_53 2))
def chargenetref10_Share_b60 (F : Nat) (a0_total : Int) (a1_caps : List Int) (kl_n_60 : Int → Int → Option ((List Int) × Int)) (m_52 : Int) (step_53 : Int) : Option ((List Int) × Int) :=
  bif decide (0 < step_53) then ((chargenetref10_level F a1_caps (IntKind.wrap .i64 (m_52 + step_53))).bind fun c_64 => bif decide (c_64 ≤ a0_total) then (chargenetref10_Share_p63 step_53 kl_n_60 (IntKind.wrap .i64 (m_52 + step_53))) else (chargenetref10_Share_p63 step_53 kl_n_60 m_52)) else (chargenetref10_Share_p45 F a0_total a1_caps m_52)
def chargenetref10_Share_l60 (F : Nat) (a0_total : Int) (a1_caps : List Int) : Nat → Int → Int → Option ((List Int) × Int)
  | 0, _, _ => none
  | n + 1, m_52, step_53 => chargenetref10_Share_b60 F a0_total a1_caps (fun m_52 step_53 => chargenetref10_Share_l60 F a0_total a1_caps n m_52 step_53) m_52 step_53
def chargenetref10_Share (F : Nat) (a0_total : Int) (a1_caps : List Int) : Option ((List Int) × Int) :=
  bif decide (a0_total < 0) then (some (([], 2))) else ((chargenetref10_Right F a1_caps).bind fun c_2 => bif (!decide (c_2 = 0)) then (some (([], c_2))) else ((chargenetref10_level F a1_caps 1099511627776).bind fun c_5 => bif decide (c_5 ≤ a0_total) then (guard (((([] : List Int)).length + (a1_caps).length) * 8 ≤ 140737488355328 ∧ (([] : List Int)).length + (a1_caps).length ≤ 140737488355328) (some (((([] : List Int)) ++ a1_caps, 0)))) else (chargenetref10_Share_l60 F a0_total a1_caps F 0 1099511627776)))
def chargenetlaw10_FairShare (F : Nat) (a0_total : Int) (a1_caps : List Int) : Option Bool :=
  bif decide (80 < ((a1_caps).length : Int)) then ((chargenetlaw10_exampleHolds F).bind fun c_2 => some c_2) else ((fair_Share F a0_total a1_caps).bind fun c_4 => (chargenetref10_Share F a0_total a1_caps).bind fun c_6 => bif decide (c_4.2 = c_6.2) then ((slices_Equal_int_int F c_4.1 c_6.1).bind fun c_9 => bif c_9 then ((chargenetlaw10_exampleHolds F).bind fun c_12 => some c_12) else (some false)) else (some false))
def chargenetref10_Sorted_p3 (o0_2 : List Int) : Option (List Int) :=
  some o0_2
def chargenetref10_Sorted_p69 (i_34 : Int) (kl_n_66 : Int → (List Int) → Option (List Int)) (o0_68 : List Int) : Option (List Int) :=
  kl_n_66 (IntKind.wrap .i64 (i_34 + 1)) o0_68
def chargenetref10_Sorted_b88 (i_34 : Int) (kl_n_66 : Int → (List Int) → Option (List Int)) (kl_n_88 : Int → (List Int) → Option (List Int)) (k_78 : Int) (o0_79 : List Int) : Option (List Int) :=
  bif decide (0 < k_78) then (guard ((0 : Int) ≤ k_78 ∧ k_78 < ((o0_79).length : Int)) (guard ((0 : Int) ≤ IntKind.wrap .i64 (k_78 - 1) ∧ IntKind.wrap .i64 (k_78 - 1) < ((o0_79).length : Int)) (bif decide (o0_79.getD k_78.toNat 0 < o0_79.getD ((IntKind.wrap .i64 (k_78 - 1)).toNat) 0) then (guard ((0 : Int) ≤ IntKind.wrap .i64 (k_78 - 1) ∧ IntKind.wrap .i64 (k_78 - 1) < ((o0_79).length : Int)) (guard ((0 : Int) ≤ k_78 ∧ k_78 < ((o0_79).length : Int)) (guard ((0 : Int) ≤ k_78 ∧ k_78 < ((o0_79).length : Int)) (guard ((0 : Int) ≤ IntKind.wrap .i64 (k_78 - 1) ∧ IntKind.wrap .i64 (k_78 - 1) < ((o0_79.set k_78.toNat (o0_79.getD ((IntKind.wrap .i64 (k_78 - 1)).toNat) 0)).length : Int)) (kl_n_88 (IntKind.wrap .i64 (k_78 - 1)) ((o0_79.set k_78.toNat (o0_79.getD ((IntKind.wrap .i64 (k_78 - 1)).toNat) 0)).set ((IntKind.wrap .i64 (k_78 - 1)).toNat) (o0_79.getD k_78.toNat 0))))))) else (chargenetref10_Sorted_p69 i_34 kl_n_66 o0_79)))) else (chargenetref10_Sorted_p69 i_34 kl_n_66 o0_79)
def chargenetref10_Sorted_l88 (i_34 : Int) (kl_n_66 : Int → (List Int) → Option (List Int)) : Nat → Int → (List Int) → Option (List Int)
  | 0, _, _ => none
  | n + 1, k_78, o0_79 => chargenetref10_Sorted_b88 i_34 kl_n_66 (fun k_78 o0_79 => chargenetref10_Sorted_l88 i_34 kl_n_66 n k_78 o0_79) k_78 o0_79
def chargenetref10_Sorted_b66 (F : Nat) (kl_n_66 : Int → (List Int) → Option (List Int)) (i_34 : Int) (o0_35 : List Int) : Option (List Int) :=
  bif decide (i_34 < ((o0_35).length : Int)) then (chargenetref10_Sorted_l88 i_34 kl_n_66 F i_34 o0_35) else (chargenetref10_Sorted_p3 o0_35)
def chargenetref10_Sorted_l66 (F : Nat) : Nat → Int → (List Int) → Option (List Int)
  | 0, _, _ => none
  | n + 1, i_34, o0_35 => chargenetref10_Sorted_b66 F (fun i_34 o0_35 => chargenetref10_Sorted_l66 F n i_34 o0_35) i_34 o0_35
def chargenetref10_Sorted (F : Nat) (a0_l : List Int) : Option (List Int) :=
  guard (((([] : List Int)).length + (a0_l).length) * 8 ≤ 140737488355328 ∧ (([] : List Int)).length + (a0_l).length ≤ 140737488355328) (chargenetref10_Sorted_l66 F F 0 ((([] : List Int)) ++ a0_l))
def chargenetref10_Compare_p7 (c_1 : List Int) (c_3 : List Int) : Option Int :=
  bif decide (((c_1).length : Int) < ((c_3).length : Int)) then (some ((-1))) else (bif decide (((c_3).length : Int) < ((c_1).length : Int)) then (some 1) else (some 0))
def chargenetref10_Compare_b25 (c_1 : List Int) (c_3 : List Int) (kl_n_25 : Int → Option Int) (i_16 : Int) : Option Int :=
  bif decide (i_16 < ((c_1).length : Int)) then (bif decide (i_16 < ((c_3).length : Int)) then (guard ((0 : Int) ≤ i_16 ∧ i_16 < ((c_1).length : Int)) (guard ((0 : Int) ≤ i_16 ∧ i_16 < ((c_3).length : Int)) (bif decide (c_1.getD i_16.toNat 0 < c_3.getD i_16.toNat 0) then (some ((-1))) else (guard ((0 : Int) ≤ i_16 ∧ i_16 < ((c_1).length : Int)) (guard ((0 : Int) ≤ i_16 ∧ i_16 < ((c_3).length : Int)) (bif decide (c_3.getD i_16.toNat 0 < c_1.getD i_16.toNat 0) then (some 1) else (kl_n_25 (IntKind.wrap .i64 (i_16 + 1))))))))) else (chargenetref10_Compare_p7 c_1 c_3)) else (chargenetref10_Compare_p7 c_1 c_3)
def chargenetref10_Compare_l25 (c_1 : List Int) (c_3 : List Int) : Nat → Int → Option Int
  | 0, _ => none
  | n + 1, i_16 => chargenetref10_Compare_b25 c_1 c_3 (fun i_16 => chargenetref10_Compare_l25 c_1 c_3 n i_16) i_16
def chargenetref10_Compare (F : Nat) (a0_a : List Int) (a1_b : List Int) : Option Int :=
  (chargenetref10_Sorted F a0_a).bind fun c_1 => (chargenetref10_Sorted F a1_b).bind fun c_3 => chargenetref10_Compare_l25 c_1 c_3 F 0
def chargenetlaw10_FairCompare (F : Nat) (a0_a : List Int) (a1_b : List Int) : Option Bool :=
  bif decide (200 < ((a0_a).length : Int)) then ((chargenetlaw10_exampleHolds F).bind fun c_2 => some c_2) else (bif decide (200 < ((a1_b).length : Int)) then ((chargenetlaw10_exampleHolds F).bind fun c_5 => some c_5) else ((chargenetref10_Compare F a0_a a1_b).bind fun c_7 => (fair_Compare F a0_a a1_b).bind fun c_9 => bif decide (c_9 = c_7) then ((fair_Compare F a1_b a0_a).bind fun c_12 => bif decide (c_12 = IntKind.wrap .i64 (0 - c_7)) then ((chargenetlaw10_exampleHolds F).bind fun c_15 => some c_15) else (some false)) else (some false)))
def chargenetlaw10_big (F : Nat) (a0_caps : List Int) (a1_rules : List SRule) : Option Bool :=
  bif decide (80 < ((a0_caps).length : Int)) then (some true) else (some (decide (24 < ((a1_rules).length : Int))))
def chargenetref10_Rules_Fits_p1  : Option Bool :=
  some true
def chargenetref10_Rules_Fits_p63 (i_31 : Int) (kl_n_61 : Int → Option Bool) : Option Bool :=
  kl_n_61 (IntKind.wrap .i64 (i_31 + 1))
def chargenetref10_Rules_Fits_p67 (a0_rules : List SRule) (i_31 : Int) (kl_n_61 : Int → Option Bool) (n_64 : Int) : Option Bool :=
  guard ((0 : Int) ≤ i_31 ∧ i_31 < ((a0_rules).length : Int)) (bif decide ((a0_rules.getD i_31.toNat dSRule).Most < n_64) then (some false) else (chargenetref10_Rules_Fits_p63 i_31 kl_n_61))
def chargenetref10_Rules_Fits_p86 (k_75 : Int) (kl_n_83 : Int → Int → Option Bool) (n_85 : Int) : Option Bool :=
  kl_n_83 n_85 (IntKind.wrap .i64 (k_75 + 1))
def chargenetref10_Rules_Fits_b83 (a0_rules : List SRule) (a1_l : List Int) (i_31 : Int) (kl_n_61 : Int → Option Bool) (kl_n_83 : Int → Int → Option Bool) (n_74 : Int) (k_75 : Int) : Option Bool :=
  bif decide (k_75 < ((a1_l).length : Int)) then (guard ((0 : Int) ≤ i_31 ∧ i_31 < ((a0_rules).length : Int)) (guard ((0 : Int) ≤ k_75) (bif decide (iAnd .u64 (((a0_rules.getD i_31.toNat dSRule).Mask / 2 ^ min (k_75 : Int).toNat (IntKind.bits .u64))) 1 = 1) then (guard ((0 : Int) ≤ k_75 ∧ k_75 < ((a1_l).length : Int)) (chargenetref10_Rules_Fits_p86 k_75 kl_n_83 (IntKind.wrap .i64 (n_74 + a1_l.getD k_75.toNat 0)))) else (chargenetref10_Rules_Fits_p86 k_75 kl_n_83 n_74)))) else (chargenetref10_Rules_Fits_p67 a0_rules i_31 kl_n_61 n_74)
def chargenetref10_Rules_Fits_l83 (a0_rules : List SRule) (a1_l : List Int) (i_31 : Int) (kl_n_61 : Int → Option Bool) : Nat → Int → Int → Option Bool
  | 0, _, _ => none
  | n + 1, n_74, k_75 => chargenetref10_Rules_Fits_b83 a0_rules a1_l i_31 kl_n_61 (fun n_74 k_75 => chargenetref10_Rules_Fits_l83 a0_rules a1_l i_31 kl_n_61 n n_74 k_75) n_74 k_75
def chargenetref10_Rules_Fits_b61 (F : Nat) (a0_rules : List SRule) (a1_l : List Int) (kl_n_61 : Int → Option Bool) (i_31 : Int) : Option Bool :=
  bif decide (i_31 < ((a0_rules).length : Int)) then (chargenetref10_Rules_Fits_l83 a0_rules a1_l i_31 kl_n_61 F 0 0) else (chargenetref10_Rules_Fits_p1)
def chargenetref10_Rules_Fits_l61 (F : Nat) (a0_rules : List SRule) (a1_l : List Int) : Nat → Int → Option Bool
  | 0, _ => none
  | n + 1, i_31 => chargenetref10_Rules_Fits_b61 F a0_rules a1_l (fun i_31 => chargenetref10_Rules_Fits_l61 F a0_rules a1_l n i_31) i_31
def chargenetref10_Rules_Fits (F : Nat) (a0_rules : List SRule) (a1_l : List Int) : Option Bool :=
  chargenetref10_Rules_Fits_l61 F a0_rules a1_l F 0
def fair_division_raise_f0_p1000017_p28 (t11_11 : Int) (o3_12 : List Int) (kl_n_23 : Int → (List Int) → Option (List Int)) (n_26 : Int) : Option (List Int) :=
  guard ((0 : Int) ≤ t11_11 ∧ t11_11 < ((o3_12).length : Int)) (kl_n_23 (IntKind.wrap .i64 (t11_11 + 1)) (o3_12.set t11_11.toNat n_26))
def fair_division_raise_f0_p1000017_b23 (F : Nat) (a0_v_caps : List Int) (a0_v_x : List Int) (a0_v_active : List Bool) (a1_d : Int) (kl_n_23 : Int → (List Int) → Option (List Int)) (t11_11 : Int) (o3_12 : List Int) : Option (List Int) :=
  bif decide (t11_11 < ((a0_v_x).length : Int)) then (guard ((0 : Int) ≤ t11_11 ∧ t11_11 < ((a0_v_x).length : Int)) (guard ((0 : Int) ≤ t11_11 ∧ t11_11 < ((a0_v_active).length : Int)) (bif a0_v_active.getD t11_11.toNat false then (guard ((0 : Int) ≤ t11_11 ∧ t11_11 < ((a0_v_caps).length : Int)) ((fair_least_int F (IntKind.wrap .i64 (a0_v_x.getD t11_11.toNat 0 + a1_d)) ([a0_v_caps.getD t11_11.toNat 0])).bind fun c_32 => fair_division_raise_f0_p1000017_p28 t11_11 o3_12 kl_n_23 c_32)) else (fair_division_raise_f0_p1000017_p28 t11_11 o3_12 kl_n_23 (a0_v_x.getD t11_11.toNat 0))))) else (some o3_12)
def fair_division_raise_f0_p1000017_l23 (F : Nat) (a0_v_caps : List Int) (a0_v_x : List Int) (a0_v_active : List Bool) (a1_d : Int) : Nat → Int → (List Int) → Option (List Int)
  | 0, _, _ => none
  | n + 1, t11_11, o3_12 => fair_division_raise_f0_p1000017_b23 F a0_v_caps a0_v_x a0_v_active a1_d (fun t11_11 o3_12 => fair_division_raise_f0_p1000017_l23 F a0_v_caps a0_v_x a0_v_active a1_d n t11_11 o3_12) t11_11 o3_12
def fair_division_raise_f0_p1000017 (F : Nat) (a0_v_caps : List Int) (a0f0 : List SRule) (a0_v_x : List Int) (a0_v_active : List Bool) (a0_v_trial : List Int) (a1_d : Int) : Option (List Int) :=
  fair_division_raise_f0_p1000017_l23 F a0_v_caps a0_v_x a0_v_active a1_d F 0 a0_v_trial
def fair_division_raisable_f0_p1000017 (F : Nat) (a0_v_caps : List Int) (a0f0 : List SRule) (a0_v_x : List Int) (a0_v_active : List Bool) (a0_v_trial : List Int) (a1_d : Int) : Option (Bool × (List Int)) :=
  (fair_division_raise_f0_p1000017 F a0_v_caps a0f0 a0_v_x a0_v_active a0_v_trial a1_d).bind fun c_1 => (chargenetref10_Rules_Fits F a0f0 c_1).bind fun c_3 => some ((c_3, c_1))
def fair_division_together_f0_p1000017_p6 (F : Nat) (a0_v_caps : List Int) (a0f0 : List SRule) (a0_v_x : List Int) (a0_v_active : List Bool) (d_2 : Int) (o3_3 : List Int) : Option ((List Int) × (List Int)) :=
  (fair_division_raise_f0_p1000017 F a0_v_caps a0f0 a0_v_x a0_v_active o3_3 d_2).bind fun c_4 => some ((copyL a0_v_x 0 ((a0_v_x).length) c_4, c_4))
def fair_division_together_f0_p1000017_b23 (F : Nat) (a0_v_caps : List Int) (a0f0 : List SRule) (a0_v_x : List Int) (a0_v_active : List Bool) (kl_n_23 : Int → Int → (List Int) → Option ((List Int) × (List Int))) (d_16 : Int) (bad_17 : Int) (o3_18 : List Int) : Option ((List Int) × (List Int)) :=
  bif decide (1 < IntKind.wrap .i64 (bad_17 - d_16)) then ((fair_division_raisable_f0_p1000017 F a0_v_caps a0f0 a0_v_x a0_v_active o3_18 (IntKind.wrap .i64 (d_16 + IntKind.wrap .i64 (Int.tdiv (IntKind.wrap .i64 (bad_17 - d_16)) 2)))).bind fun c_25 => bif c_25.1 then (kl_n_23 (IntKind.wrap .i64 (d_16 + IntKind.wrap .i64 (Int.tdiv (IntKind.wrap .i64 (bad_17 - d_16)) 2))) bad_17 c_25.2) else (kl_n_23 d_16 (IntKind.wrap .i64 (d_16 + IntKind.wrap .i64 (Int.tdiv (IntKind.wrap .i64 (bad_17 - d_16)) 2))) c_25.2)) else (fair_division_together_f0_p1000017_p6 F a0_v_caps a0f0 a0_v_x a0_v_active d_16 o3_18)
def fair_division_together_f0_p1000017_l23 (F : Nat) (a0_v_caps : List Int) (a0f0 : List SRule) (a0_v_x : List Int) (a0_v_active : List Bool) : Nat → Int → Int → (List Int) → Option ((List Int) × (List Int))
  | 0, _, _, _ => none
  | n + 1, d_16, bad_17, o3_18 => fair_division_together_f0_p1000017_b23 F a0_v_caps a0f0 a0_v_x a0_v_active (fun d_16 bad_17 o3_18 => fair_division_together_f0_p1000017_l23 F a0_v_caps a0f0 a0_v_x a0_v_active n d_16 bad_17 o3_18) d_16 bad_17 o3_18
def fair_division_together_f0_p1000017_p28 (F : Nat) (a0_v_caps : List Int) (a0f0 : List SRule) (a0_v_x : List Int) (a0_v_active : List Bool) (most_1 : Int) (t45_7 : Bool) (o3_8 : List Int) : Option ((List Int) × (List Int)) :=
  bif t45_7 then (fair_division_together_f0_p1000017_l23 F a0_v_caps a0f0 a0_v_x a0_v_active F 0 most_1 o3_8) else (fair_division_together_f0_p1000017_p6 F a0_v_caps a0f0 a0_v_x a0_v_active most_1 o3_8)
def fair_division_together_f0_p1000017_p32 (F : Nat) (a0_v_caps : List Int) (a0f0 : List SRule) (a0_v_x : List Int) (a0_v_active : List Bool) (a0_v_trial : List Int) (most_1 : Int) : Option ((List Int) × (List Int)) :=
  bif decide (0 < most_1) then ((fair_division_raisable_f0_p1000017 F a0_v_caps a0f0 a0_v_x a0_v_active a0_v_trial most_1).bind fun c_30 => fair_division_together_f0_p1000017_p28 F a0_v_caps a0f0 a0_v_x a0_v_active most_1 ((!c_30.1)) c_30.2) else (fair_division_together_f0_p1000017_p28 F a0_v_caps a0f0 a0_v_x a0_v_active most_1 false a0_v_trial)
def fair_division_together_f0_p1000017_p52 (t13_41 : Int) (kl_n_49 : Int → Int → Option ((List Int) × (List Int))) (most_51 : Int) : Option ((List Int) × (List Int)) :=
  kl_n_49 most_51 (IntKind.wrap .i64 (t13_41 + 1))
def fair_division_together_f0_p1000017_b49 (F : Nat) (a0_v_caps : List Int) (a0f0 : List SRule) (a0_v_x : List Int) (a0_v_active : List Bool) (a0_v_trial : List Int) (kl_n_49 : Int → Int → Option ((List Int) × (List Int))) (most_40 : Int) (t13_41 : Int) : Option ((List Int) × (List Int)) :=
  bif decide (t13_41 < ((a0_v_x).length : Int)) then (guard ((0 : Int) ≤ t13_41 ∧ t13_41 < ((a0_v_x).length : Int)) (guard ((0 : Int) ≤ t13_41 ∧ t13_41 < ((a0_v_active).length : Int)) (bif a0_v_active.getD t13_41.toNat false then (guard ((0 : Int) ≤ t13_41 ∧ t13_41 < ((a0_v_caps).length : Int)) (fair_division_together_f0_p1000017_p52 t13_41 kl_n_49 ((if most_40 < IntKind.wrap .i64 (a0_v_caps.getD t13_41.toNat 0 - a0_v_x.getD t13_41.toNat 0) then IntKind.wrap .i64 (a0_v_caps.getD t13_41.toNat 0 - a0_v_x.getD t13_41.toNat 0) else most_40)))) else (fair_division_together_f0_p1000017_p52 t13_41 kl_n_49 most_40)))) else (fair_division_together_f0_p1000017_p32 F a0_v_caps a0f0 a0_v_x a0_v_active a0_v_trial most_40)
def fair_division_together_f0_p1000017_l49 (F : Nat) (a0_v_caps : List Int) (a0f0 : List SRule) (a0_v_x : List Int) (a0_v_active : List Bool) (a0_v_trial : List Int) : Nat → Int → Int → Option ((List Int) × (List Int))
  | 0, _, _ => none
  | n + 1, most_40, t13_41 => fair_division_together_f0_p1000017_b49 F a0_v_caps a0f0 a0_v_x a0_v_active a0_v_trial (fun most_40 t13_41 => fair_division_together_f0_p1000017_l49 F a0_v_caps a0f0 a0_v_x a0_v_active a0_v_trial n most_40 t13_41) most_40 t13_41
def fair_division_together_f0_p1000017 (F : Nat) (a0_v_caps : List Int) (a0f0 : List SRule) (a0_v_x : List Int) (a0_v_active : List Bool) (a0_v_trial : List Int) : Option ((List Int) × (List Int)) :=
  fair_division_together_f0_p1000017_l49 F a0_v_caps a0f0 a0_v_x a0_v_active a0_v_trial F 0 0
def fair_division_single_f0_p1000017_p5 (left_1 : Bool) (o1_2 : List Int) (o2_3 : List Bool) (o3_4 : List Int) : Option (Bool × (List Int) × (List Bool) × (List Int)) :=
  some ((left_1, o1_2, o2_3, o3_4))
def fair_division_single_f0_p1000017_p59 (t10_28 : Int) (kl_n_53 : Bool → Int → (List Int) → (List Bool) → (List Int) → Option (Bool × (List Int) × (List Bool) × (List Int))) (left_55 : Bool) (o1_56 : List Int) (o2_58 : List Bool) (o3_57 : List Int) : Option (Bool × (List Int) × (List Bool) × (List Int)) :=
  kl_n_53 left_55 (IntKind.wrap .i64 (t10_28 + 1)) o1_56 o2_58 o3_57
def fair_division_single_f0_p1000017_p64 (left_27 : Bool) (t10_28 : Int) (o1_29 : List Int) (o2_30 : List Bool) (kl_n_53 : Bool → Int → (List Int) → (List Bool) → (List Int) → Option (Bool × (List Int) × (List Bool) × (List Int))) (o3_62 : List Int) : Option (Bool × (List Int) × (List Bool) × (List Int)) :=
  guard ((0 : Int) ≤ t10_28 ∧ t10_28 < ((o2_30).length : Int)) (fair_division_single_f0_p1000017_p59 t10_28 kl_n_53 left_27 o1_29 (o2_30.set t10_28.toNat false) o3_62)
def fair_division_single_f0_p1000017_b53 (F : Nat) (a0_v_caps : List Int) (a0f0 : List SRule) (a0_v_x : List Int) (kl_n_53 : Bool → Int → (List Int) → (List Bool) → (List Int) → Option (Bool × (List Int) × (List Bool) × (List Int))) (left_27 : Bool) (t10_28 : Int) (o1_29 : List Int) (o2_30 : List Bool) (o3_31 : List Int) : Option (Bool × (List Int) × (List Bool) × (List Int)) :=
  bif decide (t10_28 < ((a0_v_x).length : Int)) then (guard ((0 : Int) ≤ t10_28 ∧ t10_28 < ((o2_30).length : Int)) (bif (!(o2_30.getD t10_28.toNat false)) then (fair_division_single_f0_p1000017_p59 t10_28 kl_n_53 left_27 o1_29 o2_30 o3_31) else (guard ((0 : Int) ≤ t10_28 ∧ t10_28 < ((o1_29).length : Int)) (guard ((0 : Int) ≤ t10_28 ∧ t10_28 < ((a0_v_caps).length : Int)) (bif decide (o1_29.getD t10_28.toNat 0 < a0_v_caps.getD t10_28.toNat 0) then (guard ((0 : Int) ≤ t10_28 ∧ t10_28 < ((copyL o3_31 0 ((o3_31).length) o1_29).length : Int)) (guard ((0 : Int) ≤ t10_28 ∧ t10_28 < ((copyL o3_31 0 ((o3_31).length) o1_29).length : Int)) ((chargenetref10_Rules_Fits F a0f0 ((copyL o3_31 0 ((o3_31).length) o1_29).set t10_28.toNat (IntKind.wrap .i64 ((copyL o3_31 0 ((o3_31).length) o1_29).getD t10_28.toNat 0 + 1)))).bind fun c_70 => bif c_70 then (guard ((0 : Int) ≤ t10_28 ∧ t10_28 < ((o1_29).length : Int)) (guard ((0 : Int) ≤ t10_28 ∧ t10_28 < ((o1_29).length : Int)) (fair_division_single_f0_p1000017_p59 t10_28 kl_n_53 true (o1_29.set t10_28.toNat (IntKind.wrap .i64 (o1_29.getD t10_28.toNat 0 + 1))) o2_30 ((copyL o3_31 0 ((o3_31).length) o1_29).set t10_28.toNat (IntKind.wrap .i64 ((copyL o3_31 0 ((o3_31).length) o1_29).getD t10_28.toNat 0 + 1)))))) else (fair_division_single_f0_p1000017_p64 left_27 t10_28 o1_29 o2_30 kl_n_53 ((copyL o3_31 0 ((o3_31).length) o1_29).set t10_28.toNat (IntKind.wrap .i64 ((copyL o3_31 0 ((o3_31).length) o1_29).getD t10_28.toNat 0 + 1))))))) else (fair_division_single_f0_p1000017_p64 left_27 t10_28 o1_29 o2_30 kl_n_53 o3_31)))))) else (fair_division_single_f0_p1000017_p5 left_27 o1_29 o2_30 o3_31)
def fair_division_single_f0_p1000017_l53 (F : Nat) (a0_v_caps : List Int) (a0f0 : List SRule) (a0_v_x : List Int) : Nat → Bool → Int → (List Int) → (List Bool) → (List Int) → Option (Bool × (List Int) × (List Bool) × (List Int))
  | 0, _, _, _, _, _ => none
  | n + 1, left_27, t10_28, o1_29, o2_30, o3_31 => fair_division_single_f0_p1000017_b53 F a0_v_caps a0f0 a0_v_x (fun left_27 t10_28 o1_29 o2_30 o3_31 => fair_division_single_f0_p1000017_l53 F a0_v_caps a0f0 a0_v_x n left_27 t10_28 o1_29 o2_30 o3_31) left_27 t10_28 o1_29 o2_30 o3_31
def fair_division_single_f0_p1000017 (F : Nat) (a0_v_caps : List Int) (a0f0 : List SRule) (a0_v_x : List Int) (a0_v_active : List Bool) (a0_v_trial : List Int) : Option (Bool × (List Int) × (List Bool) × (List Int)) :=
  fair_division_single_f0_p1000017_l53 F a0_v_caps a0f0 a0_v_x F false 0 a0_v_x a0_v_active a0_v_trial
def fair_Fill_f1_1000017_p14 (o3_11 : List Int) (o4_12 : List Bool) (o5_13 : List Int) : Option ((List Int) × Int) :=
  some ((o3_11, 0))
def fair_Fill_f1_1000017_b31 (F : Nat) (a0_caps : List Int) (a1f0 : List SRule) (kl_n_31 : Int → (List Int) → (List Bool) → (List Int) → Option ((List Int) × Int)) (t48_21 : Int) (o3_22 : List Int) (o4_23 : List Bool) (o5_24 : List Int) : Option ((List Int) × Int) :=
  bif decide (t48_21 < ((a0_caps).length : Int)) then ((fair_division_together_f0_p1000017 F a0_caps a1f0 o3_22 o4_23 o5_24).bind fun c_33 => (fair_division_single_f0_p1000017 F a0_caps a1f0 c_33.1 o4_23 c_33.2).bind fun c_35 => bif (!c_35.1) then (fair_Fill_f1_1000017_p14 c_35.2.1 c_35.2.2.1 c_35.2.2.2) else (kl_n_31 (IntKind.wrap .i64 (t48_21 + 1)) c_35.2.1 c_35.2.2.1 c_35.2.2.2)) else (fair_Fill_f1_1000017_p14 o3_22 o4_23 o5_24)
def fair_Fill_f1_1000017_l31 (F : Nat) (a0_caps : List Int) (a1f0 : List SRule) : Nat → Int → (List Int) → (List Bool) → (List Int) → Option ((List Int) × Int)
  | 0, _, _, _, _ => none
  | n + 1, t48_21, o3_22, o4_23, o5_24 => fair_Fill_f1_1000017_b31 F a0_caps a1f0 (fun t48_21 o3_22 o4_23 o5_24 => fair_Fill_f1_1000017_l31 F a0_caps a1f0 n t48_21 o3_22 o4_23 o5_24) t48_21 o3_22 o4_23 o5_24
def fair_Fill_f1_1000017_p38 (F : Nat) (a0_caps : List Int) (a1f0 : List SRule) (o4_10 : List Bool) : Option ((List Int) × Int) :=
  fair_Fill_f1_1000017_l31 F a0_caps a1f0 F 0 (List.replicate (((a0_caps).length : Int)).toNat (0 : Int)) o4_10 (List.replicate (((a0_caps).length : Int)).toNat (0 : Int))
def fair_Fill_f1_1000017_b45 (F : Nat) (a0_caps : List Int) (a1f0 : List SRule) (kl_n_45 : Int → (List Bool) → Option ((List Int) × Int)) (t39_41 : Int) (o4_42 : List Bool) : Option ((List Int) × Int) :=
  bif decide (t39_41 < ((List.replicate (((a0_caps).length : Int)).toNat (false : Bool)).length : Int)) then (guard ((0 : Int) ≤ t39_41 ∧ t39_41 < ((o4_42).length : Int)) (kl_n_45 (IntKind.wrap .i64 (t39_41 + 1)) (o4_42.set t39_41.toNat true))) else (fair_Fill_f1_1000017_p38 F a0_caps a1f0 o4_42)
def fair_Fill_f1_1000017_l45 (F : Nat) (a0_caps : List Int) (a1f0 : List SRule) : Nat → Int → (List Bool) → Option ((List Int) × Int)
  | 0, _, _ => none
  | n + 1, t39_41, o4_42 => fair_Fill_f1_1000017_b45 F a0_caps a1f0 (fun t39_41 o4_42 => fair_Fill_f1_1000017_l45 F a0_caps a1f0 n t39_41 o4_42) t39_41 o4_42
def fair_Fill_f1_1000017 (F : Nat) (a0_caps : List Int) (a1f0 : List SRule) : Option ((List Int) × Int) :=
  (fair_check F a0_caps).bind fun c_1 => bif (!decide (c_1 = 0)) then (some (([], c_1))) else (guard ((0 : Int) ≤ ((a0_caps).length : Int) ∧ ((8 : Nat) : Int) * (((a0_caps).length : Int)) ≤ 281474976710656 ∧ (((a0_caps).length : Int) : Int) ≤ 281474976710656) (guard ((0 : Int) ≤ ((a0_caps).length : Int) ∧ ((1 : Nat) : Int) * (((a0_caps).length : Int)) ≤ 281474976710656 ∧ (((a0_caps).length : Int) : Int) ≤ 281474976710656) (guard ((0 : Int) ≤ ((a0_caps).length : Int) ∧ ((8 : Nat) : Int) * (((a0_caps).length : Int)) ≤ 281474976710656 ∧ (((a0_caps).length : Int) : Int) ≤ 281474976710656) ((chargenetref10_Rules_Fits F a1f0 (List.replicate (((a0_caps).length : Int)).toNat (0 : Int))).bind fun c_7 => bif (!c_7) then (some ((List.replicate (((a0_caps).length : Int)).toNat (0 : Int), 0))) else (fair_Fill_f1_1000017_l45 F a0_caps a1f0 F 0 (List.replicate (((a0_caps).length : Int)).toNat (false : Bool)))))))
def chargenetlaw10_fill_f1_1000017 (F : Nat) (a0_caps : List Int) (a1f0 : List SRule) : Option ((List Int) × Bool) :=
  (fair_Fill_f1_1000017 F a0_caps a1f0).bind fun c_1 => bif decide (c_1.2 = 0) then (guard ((0 : Int) ≤ ((a0_caps).length : Int) ∧ ((8 : Nat) : Int) * (((a0_caps).length : Int)) ≤ 281474976710656 ∧ (((a0_caps).length : Int) : Int) ≤ 281474976710656) ((chargenetref10_Rules_Fits F a1f0 (List.replicate (((a0_caps).length : Int)).toNat (0 : Int))).bind fun c_5 => some ((c_1.1, c_5)))) else (some ((c_1.1, false)))
def slices_Clone_int_int_own (F : Nat) (a0_s : List Int) : Option (List Int) :=
  guard (((([] : List Int)).length + (a0_s).length) * 8 ≤ 140737488355328 ∧ (([] : List Int)).length + (a0_s).length ≤ 140737488355328) (some ((([] : List Int)) ++ a0_s))
def chargenetlaw10_FairFull_p15  : Option Bool :=
  some true
def chargenetlaw10_FairFull_p53 (t36_33 : Int) (kl_n_51 : Int → Option Bool) : Option Bool :=
  kl_n_51 (IntKind.wrap .i64 (t36_33 + 1))
def chargenetlaw10_FairFull_b51 (F : Nat) (a0_caps : List Int) (a1_rules : List SRule) (c_6 : (List Int) × Bool) (kl_n_51 : Int → Option Bool) (t36_33 : Int) : Option Bool :=
  bif decide (t36_33 < ((c_6.1).length : Int)) then (guard ((0 : Int) ≤ t36_33 ∧ t36_33 < ((c_6.1).length : Int)) (bif decide (c_6.1.getD t36_33.toNat 0 < 0) then (some false) else (guard ((0 : Int) ≤ t36_33 ∧ t36_33 < ((c_6.1).length : Int)) (guard ((0 : Int) ≤ t36_33 ∧ t36_33 < ((a0_caps).length : Int)) (bif decide (a0_caps.getD t36_33.toNat 0 < c_6.1.getD t36_33.toNat 0) then (some false) else ((slices_Clone_int_int_own F c_6.1).bind fun c_59 => guard ((0 : Int) ≤ t36_33 ∧ t36_33 < ((c_59).length : Int)) (guard ((0 : Int) ≤ t36_33 ∧ t36_33 < ((c_59).length : Int)) (guard ((0 : Int) ≤ t36_33 ∧ t36_33 < ((c_6.1).length : Int)) (guard ((0 : Int) ≤ t36_33 ∧ t36_33 < ((a0_caps).length : Int)) (bif decide (c_6.1.getD t36_33.toNat 0 < a0_caps.getD t36_33.toNat 0) then ((chargenetref10_Rules_Fits F a1_rules (c_59.set t36_33.toNat (IntKind.wrap .i64 (c_59.getD t36_33.toNat 0 + 1)))).bind fun c_66 => bif c_66 then (some false) else (chargenetlaw10_FairFull_p53 t36_33 kl_n_51)) else (chargenetlaw10_FairFull_p53 t36_33 kl_n_51))))))))))) else (chargenetlaw10_FairFull_p15)
def chargenetlaw10_FairFull_l51 (F : Nat) (a0_caps : List Int) (a1_rules : List SRule) (c_6 : (List Int) × Bool) : Nat → Int → Option Bool
  | 0, _ => none
  | n + 1, t36_33 => chargenetlaw10_FairFull_b51 F a0_caps a1_rules c_6 (fun t36_33 => chargenetlaw10_FairFull_l51 F a0_caps a1_rules c_6 n t36_33) t36_33
def chargenetlaw10_FairFull (F : Nat) (a0_caps : List Int) (a1_rules : List SRule) : Option Bool :=
  (chargenetlaw10_big F a0_caps a1_rules).bind fun c_1 => bif c_1 then ((chargenetlaw10_exampleHolds F).bind fun c_4 => some c_4) else ((chargenetlaw10_fill_f1_1000017 F a0_caps a1_rules).bind fun c_6 => bif (!c_6.2) then ((chargenetlaw10_exampleHolds F).bind fun c_9 => some c_9) else (bif (!decide (((c_6.1).length : Int) = ((a0_caps).length : Int))) then (some false) else ((chargenetref10_Rules_Fits F a1_rules c_6.1).bind fun c_12 => bif (!c_12) then (some false) else (chargenetlaw10_FairFull_l51 F a0_caps a1_rules c_6 F 0))))
def chargenetlaw10_FairLeast_p23  : Option Bool :=
  some true
def chargenetlaw10_FairLeast_b33 (c_12 : (List Int) × Bool) (o0_18 : List Int) (kl_n_33 : Int → Option Bool) (t63_28 : Int) : Option Bool :=
  bif decide (t63_28 < ((o0_18).length : Int)) then (guard ((0 : Int) ≤ t63_28 ∧ t63_28 < ((c_12.1).length : Int)) (guard ((0 : Int) ≤ t63_28 ∧ t63_28 < ((o0_18).length : Int)) (bif decide (c_12.1.getD t63_28.toNat 0 < o0_18.getD t63_28.toNat 0) then (some false) else (kl_n_33 (IntKind.wrap .i64 (t63_28 + 1)))))) else (chargenetlaw10_FairLeast_p23)
def chargenetlaw10_FairLeast_l33 (c_12 : (List Int) × Bool) (o0_18 : List Int) : Nat → Int → Option Bool
  | 0, _ => none
  | n + 1, t63_28 => chargenetlaw10_FairLeast_b33 c_12 o0_18 (fun t63_28 => chargenetlaw10_FairLeast_l33 c_12 o0_18 n t63_28) t63_28
def chargenetlaw10_FairLeast_p38 (F : Nat) (a0_caps : List Int) (a1_rules : List SRule) (c_12 : (List Int) × Bool) (o0_18 : List Int) : Option Bool :=
  bif (!decide (((c_12.1).length : Int) = ((a0_caps).length : Int))) then (some false) else ((chargenetref10_Rules_Fits F a1_rules o0_18).bind fun c_20 => bif (!c_20) then (some true) else (chargenetlaw10_FairLeast_l33 c_12 o0_18 F 0))
def chargenetlaw10_FairLeast_b47 (F : Nat) (a0_caps : List Int) (a1_rules : List SRule) (a2_d : Int) (c_12 : (List Int) × Bool) (kl_n_47 : Int → (List Int) → Option Bool) (t39_42 : Int) (o0_43 : List Int) : Option Bool :=
  bif decide (t39_42 < ((List.replicate (((a0_caps).length : Int)).toNat (0 : Int)).length : Int)) then (guard ((0 : Int) ≤ t39_42 ∧ t39_42 < ((a0_caps).length : Int)) (guard ((0 : Int) ≤ t39_42 ∧ t39_42 < ((o0_43).length : Int)) (kl_n_47 (IntKind.wrap .i64 (t39_42 + 1)) (o0_43.set t39_42.toNat ((if a0_caps.getD t39_42.toNat 0 < a2_d then a0_caps.getD t39_42.toNat 0 else a2_d)))))) else (chargenetlaw10_FairLeast_p38 F a0_caps a1_rules c_12 o0_43)
def chargenetlaw10_FairLeast_l47 (F : Nat) (a0_caps : List Int) (a1_rules : List SRule) (a2_d : Int) (c_12 : (List Int) × Bool) : Nat → Int → (List Int) → Option Bool
  | 0, _, _ => none
  | n + 1, t39_42, o0_43 => chargenetlaw10_FairLeast_b47 F a0_caps a1_rules a2_d c_12 (fun t39_42 o0_43 => chargenetlaw10_FairLeast_l47 F a0_caps a1_rules a2_d c_12 n t39_42 o0_43) t39_42 o0_43
def chargenetlaw10_FairLeast (F : Nat) (a0_caps : List Int) (a1_rules : List SRule) (a2_d : Int) : Option Bool :=
  (chargenetlaw10_big F a0_caps a1_rules).bind fun c_1 => bif c_1 then ((chargenetlaw10_exampleHolds F).bind fun c_4 => some c_4) else (bif decide (a2_d < 0) then ((chargenetlaw10_exampleHolds F).bind fun c_7 => some c_7) else (bif decide (1099511627776 < a2_d) then ((chargenetlaw10_exampleHolds F).bind fun c_10 => some c_10) else ((chargenetlaw10_fill_f1_1000017 F a0_caps a1_rules).bind fun c_12 => bif (!c_12.2) then ((chargenetlaw10_exampleHolds F).bind fun c_15 => some c_15) else (guard ((0 : Int) ≤ ((a0_caps).length : Int) ∧ ((8 : Nat) : Int) * (((a0_caps).length : Int)) ≤ 281474976710656 ∧ (((a0_caps).length : Int) : Int) ≤ 281474976710656) (chargenetlaw10_FairLeast_l47 F a0_caps a1_rules a2_d c_12 F 0 (List.replicate (((a0_caps).length : Int)).toNat (0 : Int)))))))
def chargenetlaw10_FairFair_p20  : Option Bool :=
  some true
def chargenetlaw10_FairFair_p98 (t69_58 : Int) (kl_n_96 : Int → Option Bool) : Option Bool :=
  kl_n_96 (IntKind.wrap .i64 (t69_58 + 1))
def chargenetlaw10_FairFair_p104 (a2_y : List Int) (c_9 : (List Int) × Bool) (t69_58 : Int) (kl_n_96 : Int → Option Bool) (poorer_99 : Bool) : Option Bool :=
  guard ((0 : Int) ≤ t69_58 ∧ t69_58 < ((a2_y).length : Int)) (guard ((0 : Int) ≤ t69_58 ∧ t69_58 < ((c_9.1).length : Int)) (bif decide (c_9.1.getD t69_58.toNat 0 < a2_y.getD t69_58.toNat 0) then (bif (!poorer_99) then (some false) else (chargenetlaw10_FairFair_p98 t69_58 kl_n_96)) else (chargenetlaw10_FairFair_p98 t69_58 kl_n_96)))
def chargenetlaw10_FairFair_p127 (t74_114 : Int) (kl_n_124 : Bool → Int → Option Bool) (poorer_126 : Bool) : Option Bool :=
  kl_n_124 poorer_126 (IntKind.wrap .i64 (t74_114 + 1))
def chargenetlaw10_FairFair_b124 (a2_y : List Int) (c_9 : (List Int) × Bool) (t69_58 : Int) (kl_n_96 : Int → Option Bool) (kl_n_124 : Bool → Int → Option Bool) (poorer_113 : Bool) (t74_114 : Int) : Option Bool :=
  bif decide (t74_114 < ((a2_y).length : Int)) then (bif poorer_113 then (chargenetlaw10_FairFair_p127 t74_114 kl_n_124 true) else (guard ((0 : Int) ≤ t74_114 ∧ t74_114 < ((a2_y).length : Int)) (guard ((0 : Int) ≤ t74_114 ∧ t74_114 < ((c_9.1).length : Int)) (bif decide (a2_y.getD t74_114.toNat 0 < c_9.1.getD t74_114.toNat 0) then (guard ((0 : Int) ≤ t74_114 ∧ t74_114 < ((a2_y).length : Int)) (guard ((0 : Int) ≤ t69_58 ∧ t69_58 < ((c_9.1).length : Int)) (chargenetlaw10_FairFair_p127 t74_114 kl_n_124 (decide (a2_y.getD t74_114.toNat 0 ≤ c_9.1.getD t69_58.toNat 0))))) else (chargenetlaw10_FairFair_p127 t74_114 kl_n_124 false))))) else (chargenetlaw10_FairFair_p104 a2_y c_9 t69_58 kl_n_96 poorer_113)
def chargenetlaw10_FairFair_l124 (a2_y : List Int) (c_9 : (List Int) × Bool) (t69_58 : Int) (kl_n_96 : Int → Option Bool) : Nat → Bool → Int → Option Bool
  | 0, _, _ => none
  | n + 1, poorer_113, t74_114 => chargenetlaw10_FairFair_b124 a2_y c_9 t69_58 kl_n_96 (fun poorer_113 t74_114 => chargenetlaw10_FairFair_l124 a2_y c_9 t69_58 kl_n_96 n poorer_113 t74_114) poorer_113 t74_114
def chargenetlaw10_FairFair_b96 (F : Nat) (a2_y : List Int) (c_9 : (List Int) × Bool) (kl_n_96 : Int → Option Bool) (t69_58 : Int) : Option Bool :=
  bif decide (t69_58 < ((a2_y).length : Int)) then (chargenetlaw10_FairFair_l124 a2_y c_9 t69_58 kl_n_96 F false 0) else (chargenetlaw10_FairFair_p20)
def chargenetlaw10_FairFair_l96 (F : Nat) (a2_y : List Int) (c_9 : (List Int) × Bool) : Nat → Int → Option Bool
  | 0, _ => none
  | n + 1, t69_58 => chargenetlaw10_FairFair_b96 F a2_y c_9 (fun t69_58 => chargenetlaw10_FairFair_l96 F a2_y c_9 n t69_58) t69_58
def chargenetlaw10_FairFair_p134 (F : Nat) (a0_caps : List Int) (a1_rules : List SRule) (a2_y : List Int) (c_9 : (List Int) × Bool) : Option Bool :=
  (chargenetref10_Rules_Fits F a1_rules a2_y).bind fun c_14 => bif (!c_14) then ((chargenetlaw10_exampleHolds F).bind fun c_17 => some c_17) else (bif (!decide (((c_9.1).length : Int) = ((a0_caps).length : Int))) then (some false) else (chargenetlaw10_FairFair_l96 F a2_y c_9 F 0))
def chargenetlaw10_FairFair_b156 (F : Nat) (a0_caps : List Int) (a1_rules : List SRule) (a2_y : List Int) (c_9 : (List Int) × Bool) (kl_n_156 : Int → Option Bool) (t36_145 : Int) : Option Bool :=
  bif decide (t36_145 < ((a2_y).length : Int)) then (guard ((0 : Int) ≤ t36_145 ∧ t36_145 < ((a2_y).length : Int)) (bif decide (a2_y.getD t36_145.toNat 0 < 0) then ((chargenetlaw10_exampleHolds F).bind fun c_160 => some c_160) else (guard ((0 : Int) ≤ t36_145 ∧ t36_145 < ((a2_y).length : Int)) (guard ((0 : Int) ≤ t36_145 ∧ t36_145 < ((a0_caps).length : Int)) (bif decide (a0_caps.getD t36_145.toNat 0 < a2_y.getD t36_145.toNat 0) then ((chargenetlaw10_exampleHolds F).bind fun c_165 => some c_165) else (kl_n_156 (IntKind.wrap .i64 (t36_145 + 1)))))))) else (chargenetlaw10_FairFair_p134 F a0_caps a1_rules a2_y c_9)
def chargenetlaw10_FairFair_l156 (F : Nat) (a0_caps : List Int) (a1_rules : List SRule) (a2_y : List Int) (c_9 : (List Int) × Bool) : Nat → Int → Option Bool
  | 0, _ => none
  | n + 1, t36_145 => chargenetlaw10_FairFair_b156 F a0_caps a1_rules a2_y c_9 (fun t36_145 => chargenetlaw10_FairFair_l156 F a0_caps a1_rules a2_y c_9 n t36_145) t36_145
def chargenetlaw10_FairFair (F : Nat) (a0_caps : List Int) (a1_rules : List SRule) (a2_y : List Int) : Option Bool :=
  (chargenetlaw10_big F a0_caps a1_rules).bind fun c_1 => bif c_1 then ((chargenetlaw10_exampleHolds F).bind fun c_4 => some c_4) else (bif (!decide (((a2_y).length : Int) = ((a0_caps).length : Int))) then ((chargenetlaw10_exampleHolds F).bind fun c_7 => some c_7) else ((chargenetlaw10_fill_f1_1000017 F a0_caps a1_rules).bind fun c_9 => bif (!c_9.2) then ((chargenetlaw10_exampleHolds F).bind fun c_12 => some c_12) else (chargenetlaw10_FairFair_l156 F a0_caps a1_rules a2_y c_9 F 0)))
def chargenetlaw10_FairSums (F : Nat) (a0_total : Int) (a1_caps : List Int) : Option Bool :=
  bif decide (80 < ((a1_caps).length : Int)) then ((chargenetlaw10_exampleHolds F).bind fun c_2 => some c_2) else (bif decide (a0_total < 0) then ((chargenetlaw10_exampleHolds F).bind fun c_5 => some c_5) else ((fair_Share F a0_total a1_caps).bind fun c_7 => (chargenetlaw10_sum F a0_total).bind fun c_9 => (fair_Fill_f1_34 F a1_caps c_9).bind fun c_11 => bif decide (c_7.2 = c_11.2) then ((slices_Equal_int_int F c_7.1 c_11.1).bind fun c_14 => bif c_14 then ((chargenetlaw10_exampleHolds F).bind fun c_17 => some c_17) else (some false)) else (some false)))
end Go.Proofs.Ythpblkclpfmbeaa.M
