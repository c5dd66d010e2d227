/- Written by a program of ours (wip/eng/gen.py): the plain models of the functions. -/
import Derived.Test.YtggfgdohbeoabaaEngT
namespace Go.Proofs.Ytggfgdohbeoabaa.M
open Go Go.Proofs.Ytggfgdohbeoabaa.E
set_option linter.unusedVariables false
structure SRole where
  Name : ByteArray
  Actions : List Int
  Prefix : ByteArray
  Deny : Bool
def dSRole : SRole := ⟨ByteArray.empty, [], ByteArray.empty, false⟩
structure SSpan where
  From : Int
  To : Int
def dSSpan : SSpan := ⟨0, 0⟩
structure SGrant where
  User : ByteArray
  Role : ByteArray
  Span_From : Int
  Span_To : Int
def dSGrant : SGrant := ⟨ByteArray.empty, ByteArray.empty, 0, 0⟩
structure SCase where
  Roles : List SRole
  Grants : List SGrant
def dSCase : SCase := ⟨[], []⟩
structure SAsk where
  User : ByteArray
  Action : Int
  Object : ByteArray
  Now : Int
def dSAsk : SAsk := ⟨ByteArray.empty, 0, ByteArray.empty, 0⟩
def chargenetlaw39_small_p3  : Option Bool :=
  some true
def chargenetlaw39_small_b11 (a0_x : SCase) (kl_n_11 : Int → Option Bool) (t17_7 : Int) : Option Bool :=
  bif decide (t17_7 < ((a0_x.Roles).length : Int)) then (guard ((0 : Int) ≤ t17_7 ∧ t17_7 < ((a0_x.Roles).length : Int)) (bif decide (110 < (((a0_x.Roles.getD t17_7.toNat dSRole).Actions).length : Int)) then (some false) else (kl_n_11 (IntKind.wrap .i64 (t17_7 + 1))))) else (chargenetlaw39_small_p3)
def chargenetlaw39_small_l11 (a0_x : SCase) : Nat → Int → Option Bool
  | 0, _ => none
  | n + 1, t17_7 => chargenetlaw39_small_b11 a0_x (fun t17_7 => chargenetlaw39_small_l11 a0_x n t17_7) t17_7
def chargenetlaw39_small (F : Nat) (a0_x : SCase) : Option Bool :=
  bif decide (40 < ((a0_x.Roles).length : Int)) then (some false) else (bif decide (300 < ((a0_x.Grants).length : Int)) then (some false) else (chargenetlaw39_small_l11 a0_x F 0))
def ident_value_p1  : Option Int :=
  some ((-1))
def ident_value_p8 (a0_r : Int) (t13_4 : Bool) : Option Int :=
  bif t13_4 then (some (IntKind.wrap .i64 (IntKind.wrap .i64 (IntKind.wrap .i32 (a0_r - 65)) + 10))) else (bif decide (97 ≤ a0_r) then (bif decide (a0_r ≤ 122) then (some (IntKind.wrap .i64 (IntKind.wrap .i64 (IntKind.wrap .i32 (a0_r - 97)) + 10))) else (ident_value_p1)) else (ident_value_p1))
def ident_value_p10 (a0_r : Int) (t3_2 : Bool) : Option Int :=
  bif t3_2 then (some (IntKind.wrap .i64 (IntKind.wrap .i32 (a0_r - 48)))) else (bif decide (65 ≤ a0_r) then (ident_value_p8 a0_r (decide (a0_r ≤ 90))) else (ident_value_p8 a0_r false))
def ident_value (F : Nat) (a0_r : Int) : Option Int :=
  bif decide (48 ≤ a0_r) then (ident_value_p10 a0_r (decide (a0_r ≤ 57))) else (ident_value_p10 a0_r false)
def ident_Valid_p3  : Option Bool :=
  some true
def ident_Valid_p36 (F : Nat) (a0_s : ByteArray) (pos_17 : Nat) (kl_n_29 : Nat → Option Bool) (t19_31 : Bool) : Option Bool :=
  bif t19_31 then (kl_n_29 (pos_17 + (Utf8.decode a0_s pos_17).2)) else ((ident_value F (((Utf8.decode a0_s pos_17).1 : Int))).bind fun c_33 => bif decide (c_33 < 0) then (some false) else (kl_n_29 (pos_17 + (Utf8.decode a0_s pos_17).2)))
def ident_Valid_b29 (F : Nat) (a0_s : ByteArray) (kl_n_29 : Nat → Option Bool) (pos_17 : Nat) : Option Bool :=
  bif decide (pos_17 < a0_s.size) then (bif decide (((Utf8.decode a0_s pos_17).1 : Int) = 45) then (ident_Valid_p36 F a0_s pos_17 kl_n_29 (decide (((Utf8.decode a0_s pos_17).1 : Int) = 45))) else (bif decide (((Utf8.decode a0_s pos_17).1 : Int) = 95) then (ident_Valid_p36 F a0_s pos_17 kl_n_29 (decide (((Utf8.decode a0_s pos_17).1 : Int) = 95))) else (bif decide (((Utf8.decode a0_s pos_17).1 : Int) = 46) then (ident_Valid_p36 F a0_s pos_17 kl_n_29 (decide (((Utf8.decode a0_s pos_17).1 : Int) = 46))) else (bif decide (((Utf8.decode a0_s pos_17).1 : Int) = 58) then (ident_Valid_p36 F a0_s pos_17 kl_n_29 (decide (((Utf8.decode a0_s pos_17).1 : Int) = 58))) else (ident_Valid_p36 F a0_s pos_17 kl_n_29 (decide (((Utf8.decode a0_s pos_17).1 : Int) = 42))))))) else (ident_Valid_p3)
def ident_Valid_l29 (F : Nat) (a0_s : ByteArray) : Nat → Nat → Option Bool
  | 0, _ => none
  | n + 1, pos_17 => ident_Valid_b29 F a0_s (fun pos_17 => ident_Valid_l29 F a0_s n pos_17) pos_17
def ident_Valid (F : Nat) (a0_s : ByteArray) : Option Bool :=
  bif decide ((a0_s.size : Int) < 1) then (some false) else (bif decide (36 < (a0_s.size : Int)) then (some false) else (ident_Valid_l29 F a0_s F 0))
def access_validRole_p1  : Option Int :=
  some 0
def access_validRole_p6 (F : Nat) (a0_r : SRole) : Option Int :=
  bif (!(sEq a0_r.Prefix ByteArray.empty)) then ((ident_Valid F a0_r.Prefix).bind fun c_3 => bif (!c_3) then (some 4) else (access_validRole_p1)) else (access_validRole_p1)
def access_validRole_p26 (t8_15 : Int) (kl_n_24 : Int → Option Int) : Option Int :=
  kl_n_24 (IntKind.wrap .i64 (t8_15 + 1))
def access_validRole_b24 (F : Nat) (a0_r : SRole) (kl_n_24 : Int → Option Int) (t8_15 : Int) : Option Int :=
  bif decide (t8_15 < ((a0_r.Actions).length : Int)) then (guard ((0 : Int) ≤ t8_15 ∧ t8_15 < ((a0_r.Actions).length : Int)) (bif decide (a0_r.Actions.getD t8_15.toNat 0 < 1) then (some 2) else (bif decide (100 < a0_r.Actions.getD t8_15.toNat 0) then (some 2) else (bif decide (0 < t8_15) then (guard ((0 : Int) ≤ IntKind.wrap .i64 (t8_15 - 1) ∧ IntKind.wrap .i64 (t8_15 - 1) < ((a0_r.Actions).length : Int)) (bif decide (a0_r.Actions.getD t8_15.toNat 0 ≤ a0_r.Actions.getD (IntKind.wrap .i64 (t8_15 - 1)).toNat 0) then (some 1) else (access_validRole_p26 t8_15 kl_n_24))) else (access_validRole_p26 t8_15 kl_n_24))))) else (access_validRole_p6 F a0_r)
def access_validRole_l24 (F : Nat) (a0_r : SRole) : Nat → Int → Option Int
  | 0, _ => none
  | n + 1, t8_15 => access_validRole_b24 F a0_r (fun t8_15 => access_validRole_l24 F a0_r n t8_15) t8_15
def access_validRole (F : Nat) (a0_r : SRole) : Option Int :=
  access_validRole_l24 F a0_r F 0
def access_byName_own_p2 (o0_1 : List (ByteArray × SRole)) : Option (List (ByteArray × SRole)) :=
  some o0_1
def access_byName_own_b9 (a0_roles : List SRole) (kl_n_9 : Int → (List (ByteArray × SRole)) → Option (List (ByteArray × SRole))) (t11_5 : Int) (o0_6 : List (ByteArray × SRole)) : Option (List (ByteArray × SRole)) :=
  bif decide (t11_5 < ((a0_roles).length : Int)) then (guard ((0 : Int) ≤ t11_5 ∧ t11_5 < ((a0_roles).length : Int)) (kl_n_9 (IntKind.wrap .i64 (t11_5 + 1)) (aset o0_6 ((a0_roles.getD t11_5.toNat dSRole).Name) (a0_roles.getD t11_5.toNat dSRole)))) else (access_byName_own_p2 o0_6)
def access_byName_own_l9 (a0_roles : List SRole) : Nat → Int → (List (ByteArray × SRole)) → Option (List (ByteArray × SRole))
  | 0, _, _ => none
  | n + 1, t11_5, o0_6 => access_byName_own_b9 a0_roles (fun t11_5 o0_6 => access_byName_own_l9 a0_roles n t11_5 o0_6) t11_5 o0_6
def access_byName_own (F : Nat) (a0_roles : List SRole) : Option (List (ByteArray × SRole)) :=
  access_byName_own_l9 a0_roles F 0 (([] : List (ByteArray × SRole)))
def access_holds (F : Nat) (a0_s : SSpan) (a1_now : Int) : Option Bool :=
  bif decide (a0_s.From ≤ a1_now) then (bif decide (a0_s.To = (-1)) then (some true) else (some (decide (a1_now < a0_s.To)))) else (some false)
def access_overlap (F : Nat) (a0_a : SSpan) (a1_b : SSpan) : Option Bool :=
  (access_holds F a0_a ((if a0_a.From < a1_b.From then a1_b.From else a0_a.From))).bind fun c_1 => bif c_1 then ((access_holds F a1_b ((if a0_a.From < a1_b.From then a1_b.From else a0_a.From))).bind fun c_4 => some c_4) else (some false)
def access_validGrant_p7  : Option Int :=
  some 0
def access_validGrant_p27 (t55_16 : Int) (kl_n_25 : Int → Option Int) : Option Int :=
  kl_n_25 (IntKind.wrap .i64 (t55_16 + 1))
def access_validGrant_b25 (F : Nat) (a1_before : List SGrant) (a2_g : SGrant) (kl_n_25 : Int → Option Int) (t55_16 : Int) : Option Int :=
  bif decide (t55_16 < ((a1_before).length : Int)) then (guard ((0 : Int) ≤ t55_16 ∧ t55_16 < ((a1_before).length : Int)) (bif sEq ((a1_before.getD t55_16.toNat dSGrant).User) a2_g.User then (bif sEq ((a1_before.getD t55_16.toNat dSGrant).Role) a2_g.Role then ((access_overlap F (SSpan.mk ((a1_before.getD t55_16.toNat dSGrant).Span_From) ((a1_before.getD t55_16.toNat dSGrant).Span_To)) (SSpan.mk a2_g.Span_From a2_g.Span_To)).bind fun c_31 => bif c_31 then (some 9) else (access_validGrant_p27 t55_16 kl_n_25)) else (access_validGrant_p27 t55_16 kl_n_25)) else (access_validGrant_p27 t55_16 kl_n_25))) else (access_validGrant_p7)
def access_validGrant_l25 (F : Nat) (a1_before : List SGrant) (a2_g : SGrant) : Nat → Int → Option Int
  | 0, _ => none
  | n + 1, t55_16 => access_validGrant_b25 F a1_before a2_g (fun t55_16 => access_validGrant_l25 F a1_before a2_g n t55_16) t55_16
def access_validGrant_p34 (F : Nat) (a1_before : List SGrant) (a2_g : SGrant) : Option Int :=
  access_validGrant_l25 F a1_before a2_g F 0
def access_validGrant (F : Nat) (a0_known : List (ByteArray × SRole)) (a1_before : List SGrant) (a2_g : SGrant) : Option Int :=
  (ident_Valid F a2_g.User).bind fun c_1 => bif (!c_1) then (some 4) else (bif (alook a0_known a2_g.Role).isSome then (bif decide (a2_g.Span_From < 0) then (some 2) else (bif decide (268435456 < a2_g.Span_From) then (some 2) else (bif (!decide (a2_g.Span_To = (-1))) then (bif decide (a2_g.Span_To < a2_g.Span_From) then (some 2) else (bif decide (268435456 < a2_g.Span_To) then (some 2) else (access_validGrant_p34 F a1_before a2_g))) else (access_validGrant_p34 F a1_before a2_g)))) else (some 8))
def access_Valid_p5  : Option Int :=
  some 0
def access_Valid_b19 (F : Nat) (a1_grants : List SGrant) (c_3 : List (ByteArray × SRole)) (kl_n_19 : Int → Option Int) (t49_12 : Int) : Option Int :=
  bif decide (t49_12 < ((a1_grants).length : Int)) then (guard ((0 : Int) ≤ t49_12 ∧ t49_12 < ((a1_grants).length : Int)) (guard ((0 : Int) ≤ t49_12 ∧ t49_12 ≤ ((a1_grants).length : Int)) ((access_validGrant F c_3 (subL a1_grants 0 (t49_12 : Int).toNat) (a1_grants.getD t49_12.toNat dSGrant)).bind fun c_23 => bif (!decide (c_23 = 0)) then (some c_23) else (kl_n_19 (IntKind.wrap .i64 (t49_12 + 1)))))) else (access_Valid_p5)
def access_Valid_l19 (F : Nat) (a1_grants : List SGrant) (c_3 : List (ByteArray × SRole)) : Nat → Int → Option Int
  | 0, _ => none
  | n + 1, t49_12 => access_Valid_b19 F a1_grants c_3 (fun t49_12 => access_Valid_l19 F a1_grants c_3 n t49_12) t49_12
def access_Valid_p26 (F : Nat) (a0_roles : List SRole) (a1_grants : List SGrant) : Option Int :=
  bif decide (256 < ((a1_grants).length : Int)) then (some 3) else ((access_byName_own F a0_roles).bind fun c_3 => access_Valid_l19 F a1_grants c_3 F 0)
def access_Valid_b47 (F : Nat) (a0_roles : List SRole) (a1_grants : List SGrant) (kl_n_47 : Int → (List (ByteArray × Bool)) → Option Int) (t21_36 : Int) (o0_37 : List (ByteArray × Bool)) : Option Int :=
  bif decide (t21_36 < ((a0_roles).length : Int)) then (guard ((0 : Int) ≤ t21_36 ∧ t21_36 < ((a0_roles).length : Int)) ((ident_Valid F ((a0_roles.getD t21_36.toNat dSRole).Name)).bind fun c_50 => bif (!c_50) then (some 4) else (bif (alook o0_37 ((a0_roles.getD t21_36.toNat dSRole).Name)).getD false then (some 9) else ((access_validRole F (a0_roles.getD t21_36.toNat dSRole)).bind fun c_54 => bif (!decide (c_54 = 0)) then (some c_54) else (kl_n_47 (IntKind.wrap .i64 (t21_36 + 1)) (aset o0_37 ((a0_roles.getD t21_36.toNat dSRole).Name) true)))))) else (access_Valid_p26 F a0_roles a1_grants)
def access_Valid_l47 (F : Nat) (a0_roles : List SRole) (a1_grants : List SGrant) : Nat → Int → (List (ByteArray × Bool)) → Option Int
  | 0, _, _ => none
  | n + 1, t21_36, o0_37 => access_Valid_b47 F a0_roles a1_grants (fun t21_36 o0_37 => access_Valid_l47 F a0_roles a1_grants n t21_36 o0_37) t21_36 o0_37
def access_Valid (F : Nat) (a0_roles : List SRole) (a1_grants : List SGrant) : Option Int :=
  bif decide (32 < ((a0_roles).length : Int)) then (some 3) else (access_Valid_l47 F a0_roles a1_grants F 0 (([] : List (ByteArray × Bool))))
def slices_Index_int_int_p1  : Option Int :=
  some ((-1))
def slices_Index_int_int_b9 (a0_s : List Int) (a1_v : Int) (kl_n_9 : Int → Option Int) (t8_5 : Int) : Option Int :=
  bif decide (t8_5 < ((a0_s).length : Int)) then (guard ((0 : Int) ≤ t8_5 ∧ t8_5 < ((a0_s).length : Int)) (bif decide (a1_v = a0_s.getD t8_5.toNat 0) then (some t8_5) else (kl_n_9 (IntKind.wrap .i64 (t8_5 + 1))))) else (slices_Index_int_int_p1)
def slices_Index_int_int_l9 (a0_s : List Int) (a1_v : Int) : Nat → Int → Option Int
  | 0, _ => none
  | n + 1, t8_5 => slices_Index_int_int_b9 a0_s a1_v (fun t8_5 => slices_Index_int_int_l9 a0_s a1_v n t8_5) t8_5
def slices_Index_int_int (F : Nat) (a0_s : List Int) (a1_v : Int) : Option Int :=
  slices_Index_int_int_l9 a0_s a1_v F 0
def slices_Contains_int_int (F : Nat) (a0_s : List Int) (a1_v : Int) : Option Bool :=
  (slices_Index_int_int F a0_s a1_v).bind fun c_1 => some (decide (0 ≤ c_1))
def internal_stringslite_HasPrefix (F : Nat) (a0_s : ByteArray) (a1_prefix : ByteArray) : Option Bool :=
  bif decide ((a1_prefix.size : Int) ≤ (a0_s.size : Int)) then (guard ((0 : Int) ≤ (a1_prefix.size : Int) ∧ (a1_prefix.size : Int) ≤ (a0_s.size : Int)) (some (sEq (sSub a0_s 0 ((a1_prefix.size : Int)).toNat) a1_prefix))) else (some false)
def strings_HasPrefix (F : Nat) (a0_s : ByteArray) (a1_prefix : ByteArray) : Option Bool :=
  (internal_stringslite_HasPrefix F a0_s a1_prefix).bind fun c_1 => some c_1
def access_covers (F : Nat) (a0_r : SRole) (a1_action : Int) (a2_object : ByteArray) : Option Bool :=
  (slices_Contains_int_int F a0_r.Actions a1_action).bind fun c_1 => bif c_1 then ((strings_HasPrefix F a2_object a0_r.Prefix).bind fun c_4 => some c_4) else (some false)
def access_allowed_p2 (given_1 : Bool) : Option Bool :=
  some given_1
def access_allowed_p36 (t19_18 : Int) (kl_n_33 : Bool → Int → Option Bool) (given_35 : Bool) : Option Bool :=
  kl_n_33 given_35 (IntKind.wrap .i64 (t19_18 + 1))
def access_allowed_b33 (F : Nat) (a0_known : List (ByteArray × SRole)) (a1_grants : List SGrant) (a2_user : ByteArray) (a3_action : Int) (a4_object : ByteArray) (a5_now : Int) (kl_n_33 : Bool → Int → Option Bool) (given_17 : Bool) (t19_18 : Int) : Option Bool :=
  bif decide (t19_18 < ((a1_grants).length : Int)) then (guard ((0 : Int) ≤ t19_18 ∧ t19_18 < ((a1_grants).length : Int)) (bif (!(sEq ((a1_grants.getD t19_18.toNat dSGrant).User) a2_user)) then (access_allowed_p36 t19_18 kl_n_33 given_17) else ((access_holds F (SSpan.mk ((a1_grants.getD t19_18.toNat dSGrant).Span_From) ((a1_grants.getD t19_18.toNat dSGrant).Span_To)) a5_now).bind fun c_39 => bif (!c_39) then (access_allowed_p36 t19_18 kl_n_33 given_17) else ((alook a0_known ((a1_grants.getD t19_18.toNat dSGrant).Role)).bind fun e_42 => (access_covers F e_42 a3_action a4_object).bind fun c_44 => bif (!c_44) then (access_allowed_p36 t19_18 kl_n_33 given_17) else (bif e_42.Deny then (some false) else (access_allowed_p36 t19_18 kl_n_33 true)))))) else (access_allowed_p2 given_17)
def access_allowed_l33 (F : Nat) (a0_known : List (ByteArray × SRole)) (a1_grants : List SGrant) (a2_user : ByteArray) (a3_action : Int) (a4_object : ByteArray) (a5_now : Int) : Nat → Bool → Int → Option Bool
  | 0, _, _ => none
  | n + 1, given_17, t19_18 => access_allowed_b33 F a0_known a1_grants a2_user a3_action a4_object a5_now (fun given_17 t19_18 => access_allowed_l33 F a0_known a1_grants a2_user a3_action a4_object a5_now n given_17 t19_18) given_17 t19_18
def access_allowed (F : Nat) (a0_known : List (ByteArray × SRole)) (a1_grants : List SGrant) (a2_user : ByteArray) (a3_action : Int) (a4_object : ByteArray) (a5_now : Int) : Option Bool :=
  access_allowed_l33 F a0_known a1_grants a2_user a3_action a4_object a5_now F false 0
def access_Allowed (F : Nat) (a0_roles : List SRole) (a1_grants : List SGrant) (a2_user : ByteArray) (a3_action : Int) (a4_object : ByteArray) (a5_now : Int) : Option Bool :=
  (access_Valid F a0_roles a1_grants).bind fun c_1 => bif (!decide (c_1 = 0)) then (some false) else ((access_byName_own F a0_roles).bind fun c_4 => (access_allowed F c_4 a1_grants a2_user a3_action a4_object a5_now).bind fun c_6 => some c_6)
def slices_Clone_api_Grant_api_Grant_own (F : Nat) (a0_s : List SGrant) : Option (List SGrant) :=
  guard (((([] : List SGrant)).length + (a0_s).length) * 48 ≤ 140737488355328 ∧ (([] : List SGrant)).length + (a0_s).length ≤ 140737488355328) (some ((([] : List SGrant)) ++ a0_s))
def access_Take_p3 (a0_grants : List SGrant) : Option ((List SGrant) × Int) :=
  some ((a0_grants, 8))
def access_Take_p37 (F : Nat) (a0_grants : List SGrant) (a3_now : Int) (t22_16 : Int) (kl_n_29 : Int → Option ((List SGrant) × Int)) (t42_32 : Bool) : Option ((List SGrant) × Int) :=
  bif t42_32 then ((slices_Clone_api_Grant_api_Grant_own F a0_grants).bind fun c_34 => guard ((0 : Int) ≤ t22_16 ∧ t22_16 < ((c_34).length : Int)) (some ((c_34.set t22_16.toNat (SGrant.mk ((c_34.getD t22_16.toNat dSGrant).User) ((c_34.getD t22_16.toNat dSGrant).Role) ((c_34.getD t22_16.toNat dSGrant).Span_From) a3_now), 0)))) else (kl_n_29 (IntKind.wrap .i64 (t22_16 + 1)))
def access_Take_b29 (F : Nat) (a0_grants : List SGrant) (a1_user : ByteArray) (a2_role : ByteArray) (a3_now : Int) (kl_n_29 : Int → Option ((List SGrant) × Int)) (t22_16 : Int) : Option ((List SGrant) × Int) :=
  bif decide (t22_16 < ((a0_grants).length : Int)) then (guard ((0 : Int) ≤ t22_16 ∧ t22_16 < ((a0_grants).length : Int)) (bif sEq ((a0_grants.getD t22_16.toNat dSGrant).User) a1_user then (bif sEq ((a0_grants.getD t22_16.toNat dSGrant).Role) a2_role then ((access_holds F (SSpan.mk ((a0_grants.getD t22_16.toNat dSGrant).Span_From) ((a0_grants.getD t22_16.toNat dSGrant).Span_To)) a3_now).bind fun c_40 => access_Take_p37 F a0_grants a3_now t22_16 kl_n_29 c_40) else (access_Take_p37 F a0_grants a3_now t22_16 kl_n_29 false)) else (access_Take_p37 F a0_grants a3_now t22_16 kl_n_29 false))) else (access_Take_p3 a0_grants)
def access_Take_l29 (F : Nat) (a0_grants : List SGrant) (a1_user : ByteArray) (a2_role : ByteArray) (a3_now : Int) : Nat → Int → Option ((List SGrant) × Int)
  | 0, _ => none
  | n + 1, t22_16 => access_Take_b29 F a0_grants a1_user a2_role a3_now (fun t22_16 => access_Take_l29 F a0_grants a1_user a2_role a3_now n t22_16) t22_16
def access_Take (F : Nat) (a0_grants : List SGrant) (a1_user : ByteArray) (a2_role : ByteArray) (a3_now : Int) : Option ((List SGrant) × Int) :=
  bif decide (a3_now < 0) then (some ((a0_grants, 2))) else (bif decide (268435456 < a3_now) then (some ((a0_grants, 2))) else (access_Take_l29 F a0_grants a1_user a2_role a3_now F 0))
def access_Give (F : Nat) (a0_roles : List SRole) (a1_grants : List SGrant) (a2_g : SGrant) : Option ((List SGrant) × Int) :=
  (access_Valid F a0_roles a1_grants).bind fun c_1 => bif (!decide (c_1 = 0)) then (some (([], c_1))) else (guard ((0 : Int) ≤ ((a1_grants).length : Int) ∧ ((a1_grants).length : Int) ≤ IntKind.wrap .i64 (((a1_grants).length : Int) + 1) ∧ ((48 : Nat) : Int) * (IntKind.wrap .i64 (((a1_grants).length : Int) + 1)) ≤ 281474976710656 ∧ (IntKind.wrap .i64 (((a1_grants).length : Int) + 1) : Int) ≤ 281474976710656) (guard (((copyL (List.replicate (((a1_grants).length : Int)).toNat dSGrant) 0 ((List.replicate (((a1_grants).length : Int)).toNat dSGrant).length) a1_grants).length + ([a2_g]).length) * 48 ≤ 140737488355328 ∧ (copyL (List.replicate (((a1_grants).length : Int)).toNat dSGrant) 0 ((List.replicate (((a1_grants).length : Int)).toNat dSGrant).length) a1_grants).length + ([a2_g]).length ≤ 140737488355328) ((access_Valid F a0_roles ((copyL (List.replicate (((a1_grants).length : Int)).toNat dSGrant) 0 ((List.replicate (((a1_grants).length : Int)).toNat dSGrant).length) a1_grants) ++ ([a2_g]))).bind fun c_6 => bif (!decide (c_6 = 0)) then (some (([], c_6))) else (some (((copyL (List.replicate (((a1_grants).length : Int)).toNat dSGrant) 0 ((List.replicate (((a1_grants).length : Int)).toNat dSGrant).length) a1_grants) ++ ([a2_g]), 0))))))
def slices_Sort_string_string (F : Nat) (a0_x : List ByteArray) : Option (List ByteArray) :=
  guard (a0_x.length < 4611686018427387904) (some (sortB a0_x))
def access_Users_p10 (F : Nat) (o0_6 : List ByteArray) : Option (List ByteArray) :=
  (slices_Sort_string_string F o0_6).bind fun c_7 => guard (c_7.length = o0_6.length) (some c_7)
def access_Users_p38 (t27_21 : Int) (kl_n_34 : Int → (List (ByteArray × Bool)) → (List ByteArray) → Option (List ByteArray)) (o1_36 : List (ByteArray × Bool)) (o2_37 : List ByteArray) : Option (List ByteArray) :=
  kl_n_34 (IntKind.wrap .i64 (t27_21 + 1)) o1_36 o2_37
def access_Users_b34 (F : Nat) (a1_grants : List SGrant) (a2_action : Int) (a3_object : ByteArray) (a4_now : Int) (c_4 : List (ByteArray × SRole)) (kl_n_34 : Int → (List (ByteArray × Bool)) → (List ByteArray) → Option (List ByteArray)) (t27_21 : Int) (o1_22 : List (ByteArray × Bool)) (o2_23 : List ByteArray) : Option (List ByteArray) :=
  bif decide (t27_21 < ((a1_grants).length : Int)) then (guard ((0 : Int) ≤ t27_21 ∧ t27_21 < ((a1_grants).length : Int)) (bif (alook o1_22 ((a1_grants.getD t27_21.toNat dSGrant).User)).getD false then (access_Users_p38 t27_21 kl_n_34 o1_22 o2_23) else ((access_allowed F c_4 a1_grants ((a1_grants.getD t27_21.toNat dSGrant).User) a2_action a3_object a4_now).bind fun c_41 => bif c_41 then (guard (((o2_23).length + ([(a1_grants.getD t27_21.toNat dSGrant).User]).length) * 16 ≤ 140737488355328 ∧ (o2_23).length + ([(a1_grants.getD t27_21.toNat dSGrant).User]).length ≤ 140737488355328) (access_Users_p38 t27_21 kl_n_34 (aset o1_22 ((a1_grants.getD t27_21.toNat dSGrant).User) true) (o2_23 ++ ([(a1_grants.getD t27_21.toNat dSGrant).User])))) else (access_Users_p38 t27_21 kl_n_34 (aset o1_22 ((a1_grants.getD t27_21.toNat dSGrant).User) true) o2_23)))) else (access_Users_p10 F o2_23)
def access_Users_l34 (F : Nat) (a1_grants : List SGrant) (a2_action : Int) (a3_object : ByteArray) (a4_now : Int) (c_4 : List (ByteArray × SRole)) : Nat → Int → (List (ByteArray × Bool)) → (List ByteArray) → Option (List ByteArray)
  | 0, _, _, _ => none
  | n + 1, t27_21, o1_22, o2_23 => access_Users_b34 F a1_grants a2_action a3_object a4_now c_4 (fun t27_21 o1_22 o2_23 => access_Users_l34 F a1_grants a2_action a3_object a4_now c_4 n t27_21 o1_22 o2_23) t27_21 o1_22 o2_23
def access_Users (F : Nat) (a0_roles : List SRole) (a1_grants : List SGrant) (a2_action : Int) (a3_object : ByteArray) (a4_now : Int) : Option (List ByteArray) :=
  (access_Valid F a0_roles a1_grants).bind fun c_1 => bif (!decide (c_1 = 0)) then (some ([])) else ((access_byName_own F a0_roles).bind fun c_4 => access_Users_l34 F a1_grants a2_action a3_object a4_now c_4 F 0 (([] : List (ByteArray × Bool))) (([] : List ByteArray)))
def chargenetlaw39_exampleHolds (F : Nat)  : Option Bool :=
  (access_Valid F ([SRole.mk (ByteArray.mk #[97, 108, 108]) ([1, 5]) ByteArray.empty false, SRole.mk (ByteArray.mk #[110, 111]) ([5]) (ByteArray.mk #[83, 49]) true]) ([SGrant.mk (ByteArray.mk #[117]) (ByteArray.mk #[97, 108, 108]) 0 10, SGrant.mk (ByteArray.mk #[117]) (ByteArray.mk #[97, 108, 108]) 10 ((-1)), SGrant.mk (ByteArray.mk #[117]) (ByteArray.mk #[110, 111]) 5 ((-1))])).bind fun c_1 => bif (!decide (c_1 = 0)) then (some false) else ((access_Allowed F ([SRole.mk (ByteArray.mk #[97, 108, 108]) ([1, 5]) ByteArray.empty false, SRole.mk (ByteArray.mk #[110, 111]) ([5]) (ByteArray.mk #[83, 49]) true]) ([SGrant.mk (ByteArray.mk #[117]) (ByteArray.mk #[97, 108, 108]) 0 10, SGrant.mk (ByteArray.mk #[117]) (ByteArray.mk #[97, 108, 108]) 10 ((-1)), SGrant.mk (ByteArray.mk #[117]) (ByteArray.mk #[110, 111]) 5 ((-1))]) (ByteArray.mk #[117]) 5 (ByteArray.mk #[83, 50]) 5).bind fun c_4 => bif (!c_4) then (some false) else ((access_Allowed F ([SRole.mk (ByteArray.mk #[97, 108, 108]) ([1, 5]) ByteArray.empty false, SRole.mk (ByteArray.mk #[110, 111]) ([5]) (ByteArray.mk #[83, 49]) true]) ([SGrant.mk (ByteArray.mk #[117]) (ByteArray.mk #[97, 108, 108]) 0 10, SGrant.mk (ByteArray.mk #[117]) (ByteArray.mk #[97, 108, 108]) 10 ((-1)), SGrant.mk (ByteArray.mk #[117]) (ByteArray.mk #[110, 111]) 5 ((-1))]) (ByteArray.mk #[117]) 5 (ByteArray.mk #[83, 49, 48]) 5).bind fun c_7 => bif c_7 then (some false) else ((access_Allowed F ([SRole.mk (ByteArray.mk #[97, 108, 108]) ([1, 5]) ByteArray.empty false, SRole.mk (ByteArray.mk #[110, 111]) ([5]) (ByteArray.mk #[83, 49]) true]) ([SGrant.mk (ByteArray.mk #[117]) (ByteArray.mk #[97, 108, 108]) 0 10, SGrant.mk (ByteArray.mk #[117]) (ByteArray.mk #[97, 108, 108]) 10 ((-1)), SGrant.mk (ByteArray.mk #[117]) (ByteArray.mk #[110, 111]) 5 ((-1))]) (ByteArray.mk #[117]) 5 (ByteArray.mk #[83, 49, 48]) 4).bind fun c_10 => bif (!c_10) then (some false) else ((access_Allowed F ([SRole.mk (ByteArray.mk #[97, 108, 108]) ([1, 5]) ByteArray.empty false, SRole.mk (ByteArray.mk #[110, 111]) ([5]) (ByteArray.mk #[83, 49]) true]) ([SGrant.mk (ByteArray.mk #[117]) (ByteArray.mk #[97, 108, 108]) 0 10, SGrant.mk (ByteArray.mk #[117]) (ByteArray.mk #[97, 108, 108]) 10 ((-1)), SGrant.mk (ByteArray.mk #[117]) (ByteArray.mk #[110, 111]) 5 ((-1))]) (ByteArray.mk #[117]) 2 (ByteArray.mk #[83, 50]) 5).bind fun c_13 => bif c_13 then (some false) else ((access_Take F ([SGrant.mk (ByteArray.mk #[117]) (ByteArray.mk #[97, 108, 108]) 0 10, SGrant.mk (ByteArray.mk #[117]) (ByteArray.mk #[97, 108, 108]) 10 ((-1)), SGrant.mk (ByteArray.mk #[117]) (ByteArray.mk #[110, 111]) 5 ((-1))]) (ByteArray.mk #[117]) (ByteArray.mk #[110, 111]) 5).bind fun c_16 => (access_Give F ([SRole.mk (ByteArray.mk #[97, 108, 108]) ([1, 5]) ByteArray.empty false, SRole.mk (ByteArray.mk #[110, 111]) ([5]) (ByteArray.mk #[83, 49]) true]) ([SGrant.mk (ByteArray.mk #[117]) (ByteArray.mk #[97, 108, 108]) 0 10, SGrant.mk (ByteArray.mk #[117]) (ByteArray.mk #[97, 108, 108]) 10 ((-1)), SGrant.mk (ByteArray.mk #[117]) (ByteArray.mk #[110, 111]) 5 ((-1))]) (SGrant.mk (ByteArray.mk #[117]) (ByteArray.mk #[120]) 0 ((-1)))).bind fun c_18 => bif decide (c_16.2 = 0) then (bif decide (((c_16.1).length : Int) = 3) then (guard ((0 : Int) ≤ 2 ∧ 2 < ((c_16.1).length : Int)) (bif (xor false (decide ((c_16.1.getD (2 : Int).toNat dSGrant).Span_From = 5) && (decide ((c_16.1.getD (2 : Int).toNat dSGrant).Span_To = 5) && true))) then (bif decide (c_18.2 = 8) then ((access_Users F ([SRole.mk (ByteArray.mk #[97, 108, 108]) ([1, 5]) ByteArray.empty false, SRole.mk (ByteArray.mk #[110, 111]) ([5]) (ByteArray.mk #[83, 49]) true]) (([] : List SGrant)) 5 (ByteArray.mk #[83]) 5).bind fun c_25 => some (decide (((c_25).length : Int) = 0))) else (some false)) else (some false))) else (some false)) else (some false))))))
def chargenetref01_Capital_p1 (a0_c : Int) : Option Int :=
  some a0_c
def chargenetref01_Capital (F : Nat) (a0_c : Int) : Option Int :=
  bif decide (97 ≤ a0_c) then (bif decide (a0_c ≤ 122) then (some (IntKind.wrap .u8 (a0_c - 32))) else (chargenetref01_Capital_p1 a0_c)) else (chargenetref01_Capital_p1 a0_c)
def chargenetref01_Value_p1  : Option Int :=
  some ((-1))
def chargenetref01_Value_b13 (F : Nat) (a0_c : Int) (kl_n_13 : Int → Option Int) (v_7 : Int) : Option Int :=
  bif decide (v_7 < 36) then (guard ((0 : Int) ≤ v_7 ∧ v_7 < ((ByteArray.mk #[48, 49, 50, 51, 52, 53, 54, 55, 56, 57, 65, 66, 67, 68, 69, 70, 71, 72, 73, 74, 75, 76, 77, 78, 79, 80, 81, 82, 83, 84, 85, 86, 87, 88, 89, 90]).size : Int)) ((chargenetref01_Capital F a0_c).bind fun c_16 => bif decide (sGet (ByteArray.mk #[48, 49, 50, 51, 52, 53, 54, 55, 56, 57, 65, 66, 67, 68, 69, 70, 71, 72, 73, 74, 75, 76, 77, 78, 79, 80, 81, 82, 83, 84, 85, 86, 87, 88, 89, 90]) v_7.toNat = c_16) then (some v_7) else (kl_n_13 (IntKind.wrap .i64 (v_7 + 1))))) else (chargenetref01_Value_p1)
def chargenetref01_Value_l13 (F : Nat) (a0_c : Int) : Nat → Int → Option Int
  | 0, _ => none
  | n + 1, v_7 => chargenetref01_Value_b13 F a0_c (fun v_7 => chargenetref01_Value_l13 F a0_c n v_7) v_7
def chargenetref01_Value (F : Nat) (a0_c : Int) : Option Int :=
  chargenetref01_Value_l13 F a0_c F 0
def chargenetref01_Valid_p3  : Option Bool :=
  some true
def chargenetref01_Valid_p29 (i_15 : Int) (kl_n_27 : Int → Option Bool) : Option Bool :=
  kl_n_27 (IntKind.wrap .i64 (i_15 + 1))
def chargenetref01_Valid_b27 (F : Nat) (a0_s : ByteArray) (kl_n_27 : Int → Option Bool) (i_15 : Int) : Option Bool :=
  bif decide (i_15 < (a0_s.size : Int)) then (guard ((0 : Int) ≤ i_15 ∧ i_15 < (a0_s.size : Int)) ((chargenetref01_Value F (sGet a0_s i_15.toNat)).bind fun c_31 => bif decide (c_31 < 0) then (bif (!decide (sGet a0_s i_15.toNat = 45)) then (bif (!decide (sGet a0_s i_15.toNat = 95)) then (bif (!decide (sGet a0_s i_15.toNat = 46)) then (bif (!decide (sGet a0_s i_15.toNat = 58)) then (bif (!decide (sGet a0_s i_15.toNat = 42)) then (some false) else (chargenetref01_Valid_p29 i_15 kl_n_27)) else (chargenetref01_Valid_p29 i_15 kl_n_27)) else (chargenetref01_Valid_p29 i_15 kl_n_27)) else (chargenetref01_Valid_p29 i_15 kl_n_27)) else (chargenetref01_Valid_p29 i_15 kl_n_27)) else (chargenetref01_Valid_p29 i_15 kl_n_27))) else (chargenetref01_Valid_p3)
def chargenetref01_Valid_l27 (F : Nat) (a0_s : ByteArray) : Nat → Int → Option Bool
  | 0, _ => none
  | n + 1, i_15 => chargenetref01_Valid_b27 F a0_s (fun i_15 => chargenetref01_Valid_l27 F a0_s n i_15) i_15
def chargenetref01_Valid (F : Nat) (a0_s : ByteArray) : Option Bool :=
  bif decide ((a0_s.size : Int) < 1) then (some false) else (bif decide (36 < (a0_s.size : Int)) then (some false) else (chargenetref01_Valid_l27 F a0_s F 0))
def chargenetref39_named_p1  : Option Int :=
  some ((-1))
def chargenetref39_named_b9 (a0_roles : List SRole) (a1_name : ByteArray) (kl_n_9 : Int → Option Int) (i_5 : Int) : Option Int :=
  bif decide (i_5 < ((a0_roles).length : Int)) then (guard ((0 : Int) ≤ i_5 ∧ i_5 < ((a0_roles).length : Int)) (bif sEq ((a0_roles.getD i_5.toNat dSRole).Name) a1_name then (some i_5) else (kl_n_9 (IntKind.wrap .i64 (i_5 + 1))))) else (chargenetref39_named_p1)
def chargenetref39_named_l9 (a0_roles : List SRole) (a1_name : ByteArray) : Nat → Int → Option Int
  | 0, _ => none
  | n + 1, i_5 => chargenetref39_named_b9 a0_roles a1_name (fun i_5 => chargenetref39_named_l9 a0_roles a1_name n i_5) i_5
def chargenetref39_named (F : Nat) (a0_roles : List SRole) (a1_name : ByteArray) : Option Int :=
  chargenetref39_named_l9 a0_roles a1_name F 0
def chargenetref39_role_p9  : Option Int :=
  some 0
def chargenetref39_role_p14 (F : Nat) (a0_roles : List SRole) (a1_i : Int) : Option Int :=
  bif (!(sEq ((a0_roles.getD a1_i.toNat dSRole).Prefix) ByteArray.empty)) then ((chargenetref01_Valid F ((a0_roles.getD a1_i.toNat dSRole).Prefix)).bind fun c_11 => bif (!c_11) then (some 4) else (chargenetref39_role_p9)) else (chargenetref39_role_p9)
def chargenetref39_role_p38 (k_25 : Int) (kl_n_36 : Int → Option Int) : Option Int :=
  kl_n_36 (IntKind.wrap .i64 (k_25 + 1))
def chargenetref39_role_b36 (F : Nat) (a0_roles : List SRole) (a1_i : Int) (kl_n_36 : Int → Option Int) (k_25 : Int) : Option Int :=
  bif decide (k_25 < (((a0_roles.getD a1_i.toNat dSRole).Actions).length : Int)) then (guard ((0 : Int) ≤ k_25 ∧ k_25 < (((a0_roles.getD a1_i.toNat dSRole).Actions).length : Int)) (bif decide (((a0_roles.getD a1_i.toNat dSRole).Actions).getD k_25.toNat 0 < 1) then (some 2) else (guard ((0 : Int) ≤ k_25 ∧ k_25 < (((a0_roles.getD a1_i.toNat dSRole).Actions).length : Int)) (bif decide (100 < ((a0_roles.getD a1_i.toNat dSRole).Actions).getD k_25.toNat 0) then (some 2) else (bif decide (0 < k_25) then (guard ((0 : Int) ≤ k_25 ∧ k_25 < (((a0_roles.getD a1_i.toNat dSRole).Actions).length : Int)) (guard ((0 : Int) ≤ IntKind.wrap .i64 (k_25 - 1) ∧ IntKind.wrap .i64 (k_25 - 1) < (((a0_roles.getD a1_i.toNat dSRole).Actions).length : Int)) (bif decide (((a0_roles.getD a1_i.toNat dSRole).Actions).getD k_25.toNat 0 ≤ ((a0_roles.getD a1_i.toNat dSRole).Actions).getD (IntKind.wrap .i64 (k_25 - 1)).toNat 0) then (some 1) else (chargenetref39_role_p38 k_25 kl_n_36)))) else (chargenetref39_role_p38 k_25 kl_n_36)))))) else (chargenetref39_role_p14 F a0_roles a1_i)
def chargenetref39_role_l36 (F : Nat) (a0_roles : List SRole) (a1_i : Int) : Nat → Int → Option Int
  | 0, _ => none
  | n + 1, k_25 => chargenetref39_role_b36 F a0_roles a1_i (fun k_25 => chargenetref39_role_l36 F a0_roles a1_i n k_25) k_25
def chargenetref39_role (F : Nat) (a0_roles : List SRole) (a1_i : Int) : Option Int :=
  guard ((0 : Int) ≤ a1_i ∧ a1_i < ((a0_roles).length : Int)) ((chargenetref01_Valid F ((a0_roles.getD a1_i.toNat dSRole).Name)).bind fun c_2 => bif (!c_2) then (some 4) else (guard ((0 : Int) ≤ a1_i ∧ a1_i ≤ ((a0_roles).length : Int)) ((chargenetref39_named F (subL a0_roles 0 (a1_i : Int).toNat) ((a0_roles.getD a1_i.toNat dSRole).Name)).bind fun c_6 => bif decide (0 ≤ c_6) then (some 9) else (chargenetref39_role_l36 F a0_roles a1_i F 0))))
def chargenetref02_Right (F : Nat) (a0_t : Int) : Option Bool :=
  bif decide (0 ≤ a0_t) then (some (decide (a0_t ≤ 268435456))) else (some false)
def chargenetref39_end (F : Nat) (a0_s : SSpan) : Option Int :=
  bif decide (a0_s.To = (-1)) then (some 268435457) else (some a0_s.To)
def chargenetref39_grant_p8  : Option Int :=
  some 0
def chargenetref39_grant_p32 (k_19 : Int) (kl_n_30 : Int → Option Int) : Option Int :=
  kl_n_30 (IntKind.wrap .i64 (k_19 + 1))
def chargenetref39_grant_b30 (F : Nat) (a1_grants : List SGrant) (a2_i : Int) (kl_n_30 : Int → Option Int) (k_19 : Int) : Option Int :=
  bif decide (k_19 < a2_i) then (guard ((0 : Int) ≤ k_19 ∧ k_19 < ((a1_grants).length : Int)) (bif sEq ((a1_grants.getD k_19.toNat dSGrant).User) ((a1_grants.getD a2_i.toNat dSGrant).User) then (bif sEq ((a1_grants.getD k_19.toNat dSGrant).Role) ((a1_grants.getD a2_i.toNat dSGrant).Role) then ((chargenetref39_end F (SSpan.mk ((a1_grants.getD k_19.toNat dSGrant).Span_From) ((a1_grants.getD k_19.toNat dSGrant).Span_To))).bind fun c_36 => (chargenetref39_end F (SSpan.mk ((a1_grants.getD a2_i.toNat dSGrant).Span_From) ((a1_grants.getD a2_i.toNat dSGrant).Span_To))).bind fun c_38 => bif decide ((if (a1_grants.getD k_19.toNat dSGrant).Span_From < (a1_grants.getD a2_i.toNat dSGrant).Span_From then (a1_grants.getD a2_i.toNat dSGrant).Span_From else (a1_grants.getD k_19.toNat dSGrant).Span_From) < (if c_38 < c_36 then c_38 else c_36)) then (some 9) else (chargenetref39_grant_p32 k_19 kl_n_30)) else (chargenetref39_grant_p32 k_19 kl_n_30)) else (chargenetref39_grant_p32 k_19 kl_n_30))) else (chargenetref39_grant_p8)
def chargenetref39_grant_l30 (F : Nat) (a1_grants : List SGrant) (a2_i : Int) : Nat → Int → Option Int
  | 0, _ => none
  | n + 1, k_19 => chargenetref39_grant_b30 F a1_grants a2_i (fun k_19 => chargenetref39_grant_l30 F a1_grants a2_i n k_19) k_19
def chargenetref39_grant_p41 (F : Nat) (a1_grants : List SGrant) (a2_i : Int) : Option Int :=
  chargenetref39_grant_l30 F a1_grants a2_i F 0
def chargenetref39_grant (F : Nat) (a0_roles : List SRole) (a1_grants : List SGrant) (a2_i : Int) : Option Int :=
  guard ((0 : Int) ≤ a2_i ∧ a2_i < ((a1_grants).length : Int)) ((chargenetref01_Valid F ((a1_grants.getD a2_i.toNat dSGrant).User)).bind fun c_2 => bif (!c_2) then (some 4) else ((chargenetref39_named F a0_roles ((a1_grants.getD a2_i.toNat dSGrant).Role)).bind fun c_5 => bif decide (c_5 < 0) then (some 8) else ((chargenetref02_Right F ((a1_grants.getD a2_i.toNat dSGrant).Span_From)).bind fun c_42 => bif (!c_42) then (some 2) else (bif (!decide ((a1_grants.getD a2_i.toNat dSGrant).Span_To = (-1))) then (bif decide ((a1_grants.getD a2_i.toNat dSGrant).Span_To < (a1_grants.getD a2_i.toNat dSGrant).Span_From) then (some 2) else (bif decide (268435456 < (a1_grants.getD a2_i.toNat dSGrant).Span_To) then (some 2) else (chargenetref39_grant_p41 F a1_grants a2_i))) else (chargenetref39_grant_p41 F a1_grants a2_i)))))
def chargenetref39_Valid_p3  : Option Int :=
  some 0
def chargenetref39_Valid_b13 (F : Nat) (a0_roles : List SRole) (a1_grants : List SGrant) (kl_n_13 : Int → Option Int) (i_8 : Int) : Option Int :=
  bif decide (i_8 < ((a1_grants).length : Int)) then ((chargenetref39_grant F a0_roles a1_grants i_8).bind fun c_15 => bif (!decide (c_15 = 0)) then (some c_15) else (kl_n_13 (IntKind.wrap .i64 (i_8 + 1)))) else (chargenetref39_Valid_p3)
def chargenetref39_Valid_l13 (F : Nat) (a0_roles : List SRole) (a1_grants : List SGrant) : Nat → Int → Option Int
  | 0, _ => none
  | n + 1, i_8 => chargenetref39_Valid_b13 F a0_roles a1_grants (fun i_8 => chargenetref39_Valid_l13 F a0_roles a1_grants n i_8) i_8
def chargenetref39_Valid_p18 (F : Nat) (a0_roles : List SRole) (a1_grants : List SGrant) : Option Int :=
  bif decide (256 < ((a1_grants).length : Int)) then (some 3) else (chargenetref39_Valid_l13 F a0_roles a1_grants F 0)
def chargenetref39_Valid_b28 (F : Nat) (a0_roles : List SRole) (a1_grants : List SGrant) (kl_n_28 : Int → Option Int) (i_23 : Int) : Option Int :=
  bif decide (i_23 < ((a0_roles).length : Int)) then ((chargenetref39_role F a0_roles i_23).bind fun c_30 => bif (!decide (c_30 = 0)) then (some c_30) else (kl_n_28 (IntKind.wrap .i64 (i_23 + 1)))) else (chargenetref39_Valid_p18 F a0_roles a1_grants)
def chargenetref39_Valid_l28 (F : Nat) (a0_roles : List SRole) (a1_grants : List SGrant) : Nat → Int → Option Int
  | 0, _ => none
  | n + 1, i_23 => chargenetref39_Valid_b28 F a0_roles a1_grants (fun i_23 => chargenetref39_Valid_l28 F a0_roles a1_grants n i_23) i_23
def chargenetref39_Valid (F : Nat) (a0_roles : List SRole) (a1_grants : List SGrant) : Option Int :=
  bif decide (32 < ((a0_roles).length : Int)) then (some 3) else (chargenetref39_Valid_l28 F a0_roles a1_grants F 0)
def chargenetlaw39_AccessValid (F : Nat) (a0_x : SCase) : Option Bool :=
  (chargenetlaw39_small F a0_x).bind fun c_1 => bif (!c_1) then ((chargenetlaw39_exampleHolds F).bind fun c_4 => some c_4) else ((access_Valid F a0_x.Roles a0_x.Grants).bind fun c_6 => (chargenetref39_Valid F a0_x.Roles a0_x.Grants).bind fun c_8 => bif decide (c_6 = c_8) then ((chargenetlaw39_exampleHolds F).bind fun c_11 => some c_11) else (some false))
def chargenetref39_holds (F : Nat) (a0_g : SGrant) (a1_now : Int) : Option Bool :=
  bif decide (a0_g.Span_From ≤ a1_now) then (bif decide (a0_g.Span_To = (-1)) then (some true) else (some (decide (a1_now < a0_g.Span_To)))) else (some false)
def chargenetref39_covers_p4  : Option Bool :=
  some false
def chargenetref39_covers_b12 (a0_r : SRole) (a1_action : Int) (kl_n_12 : Int → Option Bool) (i_8 : Int) : Option Bool :=
  bif decide (i_8 < ((a0_r.Actions).length : Int)) then (guard ((0 : Int) ≤ i_8 ∧ i_8 < ((a0_r.Actions).length : Int)) (bif decide (a0_r.Actions.getD i_8.toNat 0 = a1_action) then (some true) else (kl_n_12 (IntKind.wrap .i64 (i_8 + 1))))) else (chargenetref39_covers_p4)
def chargenetref39_covers_l12 (a0_r : SRole) (a1_action : Int) : Nat → Int → Option Bool
  | 0, _ => none
  | n + 1, i_8 => chargenetref39_covers_b12 a0_r a1_action (fun i_8 => chargenetref39_covers_l12 a0_r a1_action n i_8) i_8
def chargenetref39_covers (F : Nat) (a0_r : SRole) (a1_action : Int) (a2_object : ByteArray) : Option Bool :=
  bif decide ((a2_object.size : Int) < (a0_r.Prefix.size : Int)) then (some false) else (guard ((0 : Int) ≤ (a0_r.Prefix.size : Int) ∧ (a0_r.Prefix.size : Int) ≤ (a2_object.size : Int)) (bif (!(sEq (sSub a2_object 0 ((a0_r.Prefix.size : Int)).toNat) a0_r.Prefix)) then (some false) else (chargenetref39_covers_l12 a0_r a1_action F 0)))
def chargenetref39_Allowed_p5 (allowed_4 : Bool) : Option Bool :=
  some allowed_4
def chargenetref39_Allowed_p45 (i_24 : Int) (kl_n_42 : Bool → Int → Option Bool) (allowed_44 : Bool) : Option Bool :=
  kl_n_42 allowed_44 (IntKind.wrap .i64 (i_24 + 1))
def chargenetref39_Allowed_b42 (F : Nat) (a0_roles : List SRole) (a1_grants : List SGrant) (a2_user : ByteArray) (a3_action : Int) (a4_object : ByteArray) (a5_now : Int) (kl_n_42 : Bool → Int → Option Bool) (allowed_23 : Bool) (i_24 : Int) : Option Bool :=
  bif decide (i_24 < ((a1_grants).length : Int)) then (guard ((0 : Int) ≤ i_24 ∧ i_24 < ((a1_grants).length : Int)) (bif (!(sEq ((a1_grants.getD i_24.toNat dSGrant).User) a2_user)) then (chargenetref39_Allowed_p45 i_24 kl_n_42 allowed_23) else (guard ((0 : Int) ≤ i_24 ∧ i_24 < ((a1_grants).length : Int)) ((chargenetref39_holds F (a1_grants.getD i_24.toNat dSGrant) a5_now).bind fun c_49 => bif (!c_49) then (chargenetref39_Allowed_p45 i_24 kl_n_42 allowed_23) else (guard ((0 : Int) ≤ i_24 ∧ i_24 < ((a1_grants).length : Int)) ((chargenetref39_named F a0_roles ((a1_grants.getD i_24.toNat dSGrant).Role)).bind fun c_53 => guard ((0 : Int) ≤ c_53 ∧ c_53 < ((a0_roles).length : Int)) ((chargenetref39_covers F (a0_roles.getD c_53.toNat dSRole) a3_action a4_object).bind fun c_56 => bif (!c_56) then (chargenetref39_Allowed_p45 i_24 kl_n_42 allowed_23) else (bif (a0_roles.getD c_53.toNat dSRole).Deny then (some false) else (chargenetref39_Allowed_p45 i_24 kl_n_42 true))))))))) else (chargenetref39_Allowed_p5 allowed_23)
def chargenetref39_Allowed_l42 (F : Nat) (a0_roles : List SRole) (a1_grants : List SGrant) (a2_user : ByteArray) (a3_action : Int) (a4_object : ByteArray) (a5_now : Int) : Nat → Bool → Int → Option Bool
  | 0, _, _ => none
  | n + 1, allowed_23, i_24 => chargenetref39_Allowed_b42 F a0_roles a1_grants a2_user a3_action a4_object a5_now (fun allowed_23 i_24 => chargenetref39_Allowed_l42 F a0_roles a1_grants a2_user a3_action a4_object a5_now n allowed_23 i_24) allowed_23 i_24
def chargenetref39_Allowed (F : Nat) (a0_roles : List SRole) (a1_grants : List SGrant) (a2_user : ByteArray) (a3_action : Int) (a4_object : ByteArray) (a5_now : Int) : Option Bool :=
  (chargenetref39_Valid F a0_roles a1_grants).bind fun c_1 => bif (!decide (c_1 = 0)) then (some false) else (chargenetref39_Allowed_l42 F a0_roles a1_grants a2_user a3_action a4_object a5_now F false 0)
def chargenetlaw39_AccessAllowed (F : Nat) (a0_x : SCase) (a1_q : SAsk) : Option Bool :=
  (chargenetlaw39_small F a0_x).bind fun c_1 => bif (!c_1) then ((chargenetlaw39_exampleHolds F).bind fun c_4 => some c_4) else ((access_Allowed F a0_x.Roles a0_x.Grants a1_q.User a1_q.Action a1_q.Object a1_q.Now).bind fun c_6 => (chargenetref39_Allowed F a0_x.Roles a0_x.Grants a1_q.User a1_q.Action a1_q.Object a1_q.Now).bind fun c_8 => bif (c_6 == c_8) then ((chargenetlaw39_exampleHolds F).bind fun c_11 => some c_11) else (some false))
def chargenetref39_Give (F : Nat) (a0_roles : List SRole) (a1_grants : List SGrant) (a2_g : SGrant) : Option ((List SGrant) × Int) :=
  (chargenetref39_Valid F a0_roles a1_grants).bind fun c_1 => bif (!decide (c_1 = 0)) then (some (([], c_1))) else (guard (((([] : List SGrant)).length + (a1_grants).length) * 48 ≤ 140737488355328 ∧ (([] : List SGrant)).length + (a1_grants).length ≤ 140737488355328) (guard ((((([] : List SGrant)) ++ a1_grants).length + ([a2_g]).length) * 48 ≤ 140737488355328 ∧ ((([] : List SGrant)) ++ a1_grants).length + ([a2_g]).length ≤ 140737488355328) ((chargenetref39_Valid F a0_roles (((([] : List SGrant)) ++ a1_grants) ++ ([a2_g]))).bind fun c_6 => bif (!decide (c_6 = 0)) then (some (([], c_6))) else (some ((((([] : List SGrant)) ++ a1_grants) ++ ([a2_g]), 0))))))
def chargenetref39_Same_p2  : Option Bool :=
  some true
def chargenetref39_Same_b12 (a0_a : List SGrant) (a1_b : List SGrant) (kl_n_12 : Int → Option Bool) (i_7 : Int) : Option Bool :=
  bif decide (i_7 < ((a0_a).length : Int)) then (guard ((0 : Int) ≤ i_7 ∧ i_7 < ((a0_a).length : Int)) (guard ((0 : Int) ≤ i_7 ∧ i_7 < ((a1_b).length : Int)) (bif (xor true (sEq ((a0_a.getD i_7.toNat dSGrant).User) ((a1_b.getD i_7.toNat dSGrant).User) && (sEq ((a0_a.getD i_7.toNat dSGrant).Role) ((a1_b.getD i_7.toNat dSGrant).Role) && (decide ((a0_a.getD i_7.toNat dSGrant).Span_From = (a1_b.getD i_7.toNat dSGrant).Span_From) && (decide ((a0_a.getD i_7.toNat dSGrant).Span_To = (a1_b.getD i_7.toNat dSGrant).Span_To) && true))))) then (some false) else (kl_n_12 (IntKind.wrap .i64 (i_7 + 1)))))) else (chargenetref39_Same_p2)
def chargenetref39_Same_l12 (a0_a : List SGrant) (a1_b : List SGrant) : Nat → Int → Option Bool
  | 0, _ => none
  | n + 1, i_7 => chargenetref39_Same_b12 a0_a a1_b (fun i_7 => chargenetref39_Same_l12 a0_a a1_b n i_7) i_7
def chargenetref39_Same (F : Nat) (a0_a : List SGrant) (a1_b : List SGrant) : Option Bool :=
  bif (!decide (((a0_a).length : Int) = ((a1_b).length : Int))) then (some false) else (chargenetref39_Same_l12 a0_a a1_b F 0)
def chargenetlaw39_AccessGives (F : Nat) (a0_x : SCase) (a1_g : SGrant) : Option Bool :=
  (chargenetlaw39_small F a0_x).bind fun c_1 => bif (!c_1) then ((chargenetlaw39_exampleHolds F).bind fun c_4 => some c_4) else ((access_Give F a0_x.Roles a0_x.Grants a1_g).bind fun c_6 => (chargenetref39_Give F a0_x.Roles a0_x.Grants a1_g).bind fun c_8 => bif decide (c_6.2 = c_8.2) then ((chargenetref39_Same F c_6.1 c_8.1).bind fun c_11 => bif c_11 then ((chargenetlaw39_exampleHolds F).bind fun c_14 => some c_14) else (some false)) else (some false))
def chargenetref39_Take_p4 (a0_grants : List SGrant) : Option ((List SGrant) × Int) :=
  some ((a0_grants, 8))
def chargenetref39_Take_p35 (a0_grants : List SGrant) (a3_now : Int) (i_16 : Int) (kl_n_28 : Int → Option ((List SGrant) × Int)) (t41_31 : Bool) : Option ((List SGrant) × Int) :=
  bif t41_31 then (guard (((([] : List SGrant)).length + (a0_grants).length) * 48 ≤ 140737488355328 ∧ (([] : List SGrant)).length + (a0_grants).length ≤ 140737488355328) (guard ((0 : Int) ≤ i_16 ∧ i_16 < (((([] : List SGrant)) ++ a0_grants).length : Int)) (some ((((([] : List SGrant)) ++ a0_grants).set i_16.toNat (SGrant.mk ((((([] : List SGrant)) ++ a0_grants).getD i_16.toNat dSGrant).User) ((((([] : List SGrant)) ++ a0_grants).getD i_16.toNat dSGrant).Role) ((((([] : List SGrant)) ++ a0_grants).getD i_16.toNat dSGrant).Span_From) a3_now), 0))))) else (kl_n_28 (IntKind.wrap .i64 (i_16 + 1)))
def chargenetref39_Take_b28 (F : Nat) (a0_grants : List SGrant) (a1_user : ByteArray) (a2_role : ByteArray) (a3_now : Int) (kl_n_28 : Int → Option ((List SGrant) × Int)) (i_16 : Int) : Option ((List SGrant) × Int) :=
  bif decide (i_16 < ((a0_grants).length : Int)) then (guard ((0 : Int) ≤ i_16 ∧ i_16 < ((a0_grants).length : Int)) (bif sEq ((a0_grants.getD i_16.toNat dSGrant).User) a1_user then (bif sEq ((a0_grants.getD i_16.toNat dSGrant).Role) a2_role then ((chargenetref39_holds F (a0_grants.getD i_16.toNat dSGrant) a3_now).bind fun c_38 => chargenetref39_Take_p35 a0_grants a3_now i_16 kl_n_28 c_38) else (chargenetref39_Take_p35 a0_grants a3_now i_16 kl_n_28 false)) else (chargenetref39_Take_p35 a0_grants a3_now i_16 kl_n_28 false))) else (chargenetref39_Take_p4 a0_grants)
def chargenetref39_Take_l28 (F : Nat) (a0_grants : List SGrant) (a1_user : ByteArray) (a2_role : ByteArray) (a3_now : Int) : Nat → Int → Option ((List SGrant) × Int)
  | 0, _ => none
  | n + 1, i_16 => chargenetref39_Take_b28 F a0_grants a1_user a2_role a3_now (fun i_16 => chargenetref39_Take_l28 F a0_grants a1_user a2_role a3_now n i_16) i_16
def chargenetref39_Take (F : Nat) (a0_grants : List SGrant) (a1_user : ByteArray) (a2_role : ByteArray) (a3_now : Int) : Option ((List SGrant) × Int) :=
  (chargenetref02_Right F a3_now).bind fun c_1 => bif (!c_1) then (some ((a0_grants, 2))) else (chargenetref39_Take_l28 F a0_grants a1_user a2_role a3_now F 0)
def chargenetlaw39_AccessTakes (F : Nat) (a0_grants : List SGrant) (a1_q : SAsk) (a2_role : ByteArray) : Option Bool :=
  bif decide (300 < ((a0_grants).length : Int)) then ((chargenetlaw39_exampleHolds F).bind fun c_2 => some c_2) else ((access_Take F a0_grants a1_q.User a2_role a1_q.Now).bind fun c_4 => (chargenetref39_Take F a0_grants a1_q.User a2_role a1_q.Now).bind fun c_6 => bif decide (c_4.2 = c_6.2) then ((chargenetref39_Same F c_4.1 c_6.1).bind fun c_9 => bif c_9 then ((chargenetlaw39_exampleHolds F).bind fun c_12 => some c_12) else (some false)) else (some false))
def chargenetref39_Users_p158 (o0_77 : List ByteArray) (kl_n_154 : (List ByteArray) → Option (List ByteArray)) (next_155 : ByteArray) : Option (List ByteArray) :=
  bif sEq next_155 ByteArray.empty then (some o0_77) else (guard (((o0_77).length + ([next_155]).length) * 16 ≤ 140737488355328 ∧ (o0_77).length + ([next_155]).length ≤ 140737488355328) (kl_n_154 (o0_77 ++ ([next_155]))))
def chargenetref39_Users_p210 (i_183 : Int) (kl_n_207 : ByteArray → Int → Option (List ByteArray)) (next_209 : ByteArray) : Option (List ByteArray) :=
  kl_n_207 next_209 (IntKind.wrap .i64 (i_183 + 1))
def chargenetref39_Users_b207 (F : Nat) (a0_roles : List SRole) (a1_grants : List SGrant) (a2_action : Int) (a3_object : ByteArray) (a4_now : Int) (o0_77 : List ByteArray) (kl_n_154 : (List ByteArray) → Option (List ByteArray)) (kl_n_207 : ByteArray → Int → Option (List ByteArray)) (next_182 : ByteArray) (i_183 : Int) : Option (List ByteArray) :=
  bif decide (i_183 < ((a1_grants).length : Int)) then (guard ((0 : Int) ≤ i_183 ∧ i_183 < ((a1_grants).length : Int)) (bif decide (((o0_77).length : Int) = 0) then (bif sEq next_182 ByteArray.empty then ((chargenetref39_Allowed F a0_roles a1_grants ((a1_grants.getD i_183.toNat dSGrant).User) a2_action a3_object a4_now).bind fun c_214 => bif c_214 then (chargenetref39_Users_p210 i_183 kl_n_207 ((a1_grants.getD i_183.toNat dSGrant).User)) else (chargenetref39_Users_p210 i_183 kl_n_207 next_182)) else (bif sLt ((a1_grants.getD i_183.toNat dSGrant).User) next_182 then ((chargenetref39_Allowed F a0_roles a1_grants ((a1_grants.getD i_183.toNat dSGrant).User) a2_action a3_object a4_now).bind fun c_218 => bif c_218 then (chargenetref39_Users_p210 i_183 kl_n_207 ((a1_grants.getD i_183.toNat dSGrant).User)) else (chargenetref39_Users_p210 i_183 kl_n_207 next_182)) else (chargenetref39_Users_p210 i_183 kl_n_207 next_182))) else (guard ((0 : Int) ≤ IntKind.wrap .i64 (((o0_77).length : Int) - 1) ∧ IntKind.wrap .i64 (((o0_77).length : Int) - 1) < ((o0_77).length : Int)) (bif (!(sLt ((a1_grants.getD i_183.toNat dSGrant).User) (o0_77.getD ((IntKind.wrap .i64 (((o0_77).length : Int) - 1)).toNat) ByteArray.empty) || sEq ((a1_grants.getD i_183.toNat dSGrant).User) (o0_77.getD ((IntKind.wrap .i64 (((o0_77).length : Int) - 1)).toNat) ByteArray.empty))) then (bif sEq next_182 ByteArray.empty then ((chargenetref39_Allowed F a0_roles a1_grants ((a1_grants.getD i_183.toNat dSGrant).User) a2_action a3_object a4_now).bind fun c_224 => bif c_224 then (chargenetref39_Users_p210 i_183 kl_n_207 ((a1_grants.getD i_183.toNat dSGrant).User)) else (chargenetref39_Users_p210 i_183 kl_n_207 next_182)) else (bif sLt ((a1_grants.getD i_183.toNat dSGrant).User) next_182 then ((chargenetref39_Allowed F a0_roles a1_grants ((a1_grants.getD i_183.toNat dSGrant).User) a2_action a3_object a4_now).bind fun c_228 => bif c_228 then (chargenetref39_Users_p210 i_183 kl_n_207 ((a1_grants.getD i_183.toNat dSGrant).User)) else (chargenetref39_Users_p210 i_183 kl_n_207 next_182)) else (chargenetref39_Users_p210 i_183 kl_n_207 next_182))) else (chargenetref39_Users_p210 i_183 kl_n_207 next_182))))) else (chargenetref39_Users_p158 o0_77 kl_n_154 next_182)
def chargenetref39_Users_l207 (F : Nat) (a0_roles : List SRole) (a1_grants : List SGrant) (a2_action : Int) (a3_object : ByteArray) (a4_now : Int) (o0_77 : List ByteArray) (kl_n_154 : (List ByteArray) → Option (List ByteArray)) : Nat → ByteArray → Int → Option (List ByteArray)
  | 0, _, _ => none
  | n + 1, next_182, i_183 => chargenetref39_Users_b207 F a0_roles a1_grants a2_action a3_object a4_now o0_77 kl_n_154 (fun next_182 i_183 => chargenetref39_Users_l207 F a0_roles a1_grants a2_action a3_object a4_now o0_77 kl_n_154 n next_182 i_183) next_182 i_183
def chargenetref39_Users_b154 (F : Nat) (a0_roles : List SRole) (a1_grants : List SGrant) (a2_action : Int) (a3_object : ByteArray) (a4_now : Int) (kl_n_154 : (List ByteArray) → Option (List ByteArray)) (o0_77 : List ByteArray) : Option (List ByteArray) :=
  chargenetref39_Users_l207 F a0_roles a1_grants a2_action a3_object a4_now o0_77 kl_n_154 F ByteArray.empty 0
def chargenetref39_Users_l154 (F : Nat) (a0_roles : List SRole) (a1_grants : List SGrant) (a2_action : Int) (a3_object : ByteArray) (a4_now : Int) : Nat → (List ByteArray) → Option (List ByteArray)
  | 0, _ => none
  | n + 1, o0_77 => chargenetref39_Users_b154 F a0_roles a1_grants a2_action a3_object a4_now (fun o0_77 => chargenetref39_Users_l154 F a0_roles a1_grants a2_action a3_object a4_now n o0_77) o0_77
def chargenetref39_Users (F : Nat) (a0_roles : List SRole) (a1_grants : List SGrant) (a2_action : Int) (a3_object : ByteArray) (a4_now : Int) : Option (List ByteArray) :=
  chargenetref39_Users_l154 F a0_roles a1_grants a2_action a3_object a4_now F (([] : List ByteArray))
def chargenetlaw39_AccessUsers_p16 (F : Nat) : Option Bool :=
  (chargenetlaw39_exampleHolds F).bind fun c_14 => some c_14
def chargenetlaw39_AccessUsers_b26 (F : Nat) (c_9 : List ByteArray) (c_11 : List ByteArray) (kl_n_26 : Int → Option Bool) (t47_21 : Int) : Option Bool :=
  bif decide (t47_21 < ((c_9).length : Int)) then (guard ((0 : Int) ≤ t47_21 ∧ t47_21 < ((c_9).length : Int)) (guard ((0 : Int) ≤ t47_21 ∧ t47_21 < ((c_11).length : Int)) (bif (!(sEq (c_9.getD t47_21.toNat ByteArray.empty) (c_11.getD t47_21.toNat ByteArray.empty))) then (some false) else (kl_n_26 (IntKind.wrap .i64 (t47_21 + 1)))))) else (chargenetlaw39_AccessUsers_p16 F)
def chargenetlaw39_AccessUsers_l26 (F : Nat) (c_9 : List ByteArray) (c_11 : List ByteArray) : Nat → Int → Option Bool
  | 0, _ => none
  | n + 1, t47_21 => chargenetlaw39_AccessUsers_b26 F c_9 c_11 (fun t47_21 => chargenetlaw39_AccessUsers_l26 F c_9 c_11 n t47_21) t47_21
def chargenetlaw39_AccessUsers (F : Nat) (a0_x : SCase) (a1_q : SAsk) : Option Bool :=
  (chargenetlaw39_small F a0_x).bind fun c_1 => bif (!c_1) then ((chargenetlaw39_exampleHolds F).bind fun c_4 => some c_4) else (bif decide (20 < ((a0_x.Grants).length : Int)) then ((chargenetlaw39_exampleHolds F).bind fun c_7 => some c_7) else ((access_Users F a0_x.Roles a0_x.Grants a1_q.Action a1_q.Object a1_q.Now).bind fun c_9 => (chargenetref39_Users F a0_x.Roles a0_x.Grants a1_q.Action a1_q.Object a1_q.Now).bind fun c_11 => bif (!decide (((c_9).length : Int) = ((c_11).length : Int))) then (some false) else (chargenetlaw39_AccessUsers_l26 F c_9 c_11 F 0)))
def chargenetlaw39_deny_p1  : Option Bool :=
  some false
def chargenetlaw39_deny_b11 (a0_roles : List SRole) (a1_name : ByteArray) (kl_n_11 : Int → Option Bool) (t8_6 : Int) : Option Bool :=
  bif decide (t8_6 < ((a0_roles).length : Int)) then (guard ((0 : Int) ≤ t8_6 ∧ t8_6 < ((a0_roles).length : Int)) (bif sEq ((a0_roles.getD t8_6.toNat dSRole).Name) a1_name then (guard ((0 : Int) ≤ t8_6 ∧ t8_6 < ((a0_roles).length : Int)) (some ((a0_roles.getD t8_6.toNat dSRole).Deny))) else (kl_n_11 (IntKind.wrap .i64 (t8_6 + 1))))) else (chargenetlaw39_deny_p1)
def chargenetlaw39_deny_l11 (a0_roles : List SRole) (a1_name : ByteArray) : Nat → Int → Option Bool
  | 0, _ => none
  | n + 1, t8_6 => chargenetlaw39_deny_b11 a0_roles a1_name (fun t8_6 => chargenetlaw39_deny_l11 a0_roles a1_name n t8_6) t8_6
def chargenetlaw39_deny (F : Nat) (a0_roles : List SRole) (a1_name : ByteArray) : Option Bool :=
  chargenetlaw39_deny_l11 a0_roles a1_name F 0
def chargenetlaw39_AccessDenies (F : Nat) (a0_x : SCase) (a1_g : SGrant) (a2_q : SAsk) : Option Bool :=
  (chargenetlaw39_small F a0_x).bind fun c_1 => bif (!c_1) then ((chargenetlaw39_exampleHolds F).bind fun c_4 => some c_4) else ((access_Give F a0_x.Roles a0_x.Grants a1_g).bind fun c_6 => bif (!decide (c_6.2 = 0)) then ((chargenetlaw39_exampleHolds F).bind fun c_9 => some c_9) else ((access_Allowed F a0_x.Roles a0_x.Grants a2_q.User a2_q.Action a2_q.Object a2_q.Now).bind fun c_11 => (access_Allowed F a0_x.Roles c_6.1 a2_q.User a2_q.Action a2_q.Object a2_q.Now).bind fun c_13 => (chargenetlaw39_deny F a0_x.Roles a1_g.Role).bind fun c_15 => bif c_15 then (bif c_11 then ((chargenetlaw39_exampleHolds F).bind fun c_19 => some c_19) else (bif (!c_13) then ((chargenetlaw39_exampleHolds F).bind fun c_22 => some c_22) else (some false))) else (bif (!c_11) then ((chargenetlaw39_exampleHolds F).bind fun c_25 => some c_25) else (bif c_13 then ((chargenetlaw39_exampleHolds F).bind fun c_28 => some c_28) else (some false)))))
def chargenetlaw39_AccessEnds_p25 (F : Nat) : Option Bool :=
  (chargenetlaw39_exampleHolds F).bind fun c_23 => some c_23
def chargenetlaw39_AccessEnds_p116 (i_69 : Int) (kl_n_113 : Int → Option Bool) : Option Bool :=
  kl_n_113 (IntKind.wrap .i64 (i_69 + 1))
def chargenetlaw39_AccessEnds_p124 (F : Nat) (a0_x : SCase) (a1_q : SAsk) (c_11 : (List SGrant) × Int) (i_69 : Int) (kl_n_113 : Int → Option Bool) : Option Bool :=
  bif (!(sEq ((a0_x.Grants.getD i_69.toNat dSGrant).User) a1_q.User)) then ((access_Allowed F a0_x.Roles c_11.1 ((a0_x.Grants.getD i_69.toNat dSGrant).User) a1_q.Action a1_q.Object a1_q.Now).bind fun c_119 => (access_Allowed F a0_x.Roles a0_x.Grants ((a0_x.Grants.getD i_69.toNat dSGrant).User) a1_q.Action a1_q.Object a1_q.Now).bind fun c_121 => bif (!(c_119 == c_121)) then (some false) else (chargenetlaw39_AccessEnds_p116 i_69 kl_n_113)) else (chargenetlaw39_AccessEnds_p116 i_69 kl_n_113)
def chargenetlaw39_AccessEnds_p148 (t83_135 : Int) (kl_n_146 : Int → Option Bool) : Option Bool :=
  kl_n_146 (IntKind.wrap .i64 (t83_135 + 1))
def chargenetlaw39_AccessEnds_b146 (F : Nat) (a0_x : SCase) (a1_q : SAsk) (c_11 : (List SGrant) × Int) (i_69 : Int) (kl_n_113 : Int → Option Bool) (kl_n_146 : Int → Option Bool) (t83_135 : Int) : Option Bool :=
  bif decide (t83_135 < (([IntKind.wrap .i64 (a1_q.Now - 1), 0, IntKind.wrap .i64 (Int.tdiv a1_q.Now 2)]).length : Int)) then (guard ((0 : Int) ≤ t83_135 ∧ t83_135 < (([IntKind.wrap .i64 (a1_q.Now - 1), 0, IntKind.wrap .i64 (Int.tdiv a1_q.Now 2)]).length : Int)) (bif decide (0 ≤ ([IntKind.wrap .i64 (a1_q.Now - 1), 0, IntKind.wrap .i64 (Int.tdiv a1_q.Now 2)]).getD t83_135.toNat 0) then (bif decide (([IntKind.wrap .i64 (a1_q.Now - 1), 0, IntKind.wrap .i64 (Int.tdiv a1_q.Now 2)]).getD t83_135.toNat 0 < a1_q.Now) then ((access_Allowed F a0_x.Roles c_11.1 ((a0_x.Grants.getD i_69.toNat dSGrant).User) a1_q.Action a1_q.Object (([IntKind.wrap .i64 (a1_q.Now - 1), 0, IntKind.wrap .i64 (Int.tdiv a1_q.Now 2)]).getD t83_135.toNat 0)).bind fun c_152 => (access_Allowed F a0_x.Roles a0_x.Grants ((a0_x.Grants.getD i_69.toNat dSGrant).User) a1_q.Action a1_q.Object (([IntKind.wrap .i64 (a1_q.Now - 1), 0, IntKind.wrap .i64 (Int.tdiv a1_q.Now 2)]).getD t83_135.toNat 0)).bind fun c_154 => bif (!(c_152 == c_154)) then (some false) else (chargenetlaw39_AccessEnds_p148 t83_135 kl_n_146)) else (chargenetlaw39_AccessEnds_p148 t83_135 kl_n_146)) else (chargenetlaw39_AccessEnds_p148 t83_135 kl_n_146))) else (chargenetlaw39_AccessEnds_p124 F a0_x a1_q c_11 i_69 kl_n_113)
def chargenetlaw39_AccessEnds_l146 (F : Nat) (a0_x : SCase) (a1_q : SAsk) (c_11 : (List SGrant) × Int) (i_69 : Int) (kl_n_113 : Int → Option Bool) : Nat → Int → Option Bool
  | 0, _ => none
  | n + 1, t83_135 => chargenetlaw39_AccessEnds_b146 F a0_x a1_q c_11 i_69 kl_n_113 (fun t83_135 => chargenetlaw39_AccessEnds_l146 F a0_x a1_q c_11 i_69 kl_n_113 n t83_135) t83_135
def chargenetlaw39_AccessEnds_b113 (F : Nat) (a0_x : SCase) (a1_q : SAsk) (c_11 : (List SGrant) × Int) (kl_n_113 : Int → Option Bool) (i_69 : Int) : Option Bool :=
  bif decide (i_69 < ((a0_x.Grants).length : Int)) then (bif decide (i_69 < 20) then (guard ((0 : Int) ≤ i_69 ∧ i_69 < ((a0_x.Grants).length : Int)) (chargenetlaw39_AccessEnds_l146 F a0_x a1_q c_11 i_69 kl_n_113 F 0)) else (chargenetlaw39_AccessEnds_p25 F)) else (chargenetlaw39_AccessEnds_p25 F)
def chargenetlaw39_AccessEnds_l113 (F : Nat) (a0_x : SCase) (a1_q : SAsk) (c_11 : (List SGrant) × Int) : Nat → Int → Option Bool
  | 0, _ => none
  | n + 1, i_69 => chargenetlaw39_AccessEnds_b113 F a0_x a1_q c_11 (fun i_69 => chargenetlaw39_AccessEnds_l113 F a0_x a1_q c_11 n i_69) i_69
def chargenetlaw39_AccessEnds (F : Nat) (a0_x : SCase) (a1_q : SAsk) (a2_role : ByteArray) : Option Bool :=
  (chargenetlaw39_small F a0_x).bind fun c_1 => bif (!c_1) then ((chargenetlaw39_exampleHolds F).bind fun c_4 => some c_4) else ((access_Valid F a0_x.Roles a0_x.Grants).bind fun c_6 => bif (!decide (c_6 = 0)) then ((chargenetlaw39_exampleHolds F).bind fun c_9 => some c_9) else ((access_Take F a0_x.Grants a1_q.User a2_role a1_q.Now).bind fun c_11 => bif (!decide (c_11.2 = 0)) then ((chargenetref39_Same F c_11.1 a0_x.Grants).bind fun c_14 => bif c_14 then ((chargenetlaw39_exampleHolds F).bind fun c_17 => some c_17) else (some false)) else ((access_Valid F a0_x.Roles c_11.1).bind fun c_19 => bif (!decide (c_19 = 0)) then (some false) else (bif (!decide (((c_11.1).length : Int) = ((a0_x.Grants).length : Int))) then (some false) else (chargenetlaw39_AccessEnds_l113 F a0_x a1_q c_11 F 0)))))
end Go.Proofs.Ytggfgdohbeoabaa.M
