/- Written by a program of ours (wip/eng/gen.py): the plain models of the functions. -/
import Derived.Test.YtoncfkdgddfnlaaEngZ
namespace Go.Proofs.Ytoncfkdgddfnlaa.M
open Go Go.Proofs.Ytoncfkdgddfnlaa.E
set_option linter.unusedVariables false
structure SItem where
  Kind : Int
  Price : Int
  Tax : Int
  Quantity : Int
  Net : Int
  Vat : Int
  Gross : Int
def dSItem : SItem := ⟨0, 0, 0, 0, 0, 0, 0⟩
structure SCDR where
  ID : ByteArray
  Operator : ByteArray
  Provider : ByteArray
  Session : ByteArray
  Version : Int
  Start : Int
  End : Int
  Energy : Int
  Tariff : ByteArray
  Currency : ByteArray
  Items : List SItem
  Total : Int
  Credit : Bool
  Ref : ByteArray
def dSCDR : SCDR := ⟨ByteArray.empty, ByteArray.empty, ByteArray.empty, ByteArray.empty, 0, 0, 0, 0, ByteArray.empty, ByteArray.empty, [], 0, false, ByteArray.empty⟩
structure SDispute where
  CDR : ByteArray
  By : ByteArray
  State : Int
  Opened : Int
  Claim : Int
  Granted : Int
def dSDispute : SDispute := ⟨ByteArray.empty, ByteArray.empty, 0, 0, 0, 0⟩
structure SSpan where
  From : Int
  To : Int
def dSSpan : SSpan := ⟨0, 0⟩
structure SCase where
  CDRs : List SCDR
  Disputes : List SDispute
  A : ByteArray
  B : ByteArray
  Currency : ByteArray
  Span_From : Int
  Span_To : Int
def dSCase : SCase := ⟨[], [], ByteArray.empty, ByteArray.empty, ByteArray.empty, 0, 0⟩
structure SBalance where
  Creditor : ByteArray
  Debtor : ByteArray
  Currency : ByteArray
  Amount : Int
def dSBalance : SBalance := ⟨ByteArray.empty, ByteArray.empty, ByteArray.empty, 0⟩
def chargenetlaw49_Small_p4 (a0_c : SCase) : Option Bool :=
  bif decide (((a0_c.CDRs).length : Int) ≤ 20) then (bif decide (((a0_c.Disputes).length : Int) ≤ 20) then (bif decide ((a0_c.A.size : Int) ≤ 100) then (some (decide ((a0_c.B.size : Int) ≤ 100))) else (some false)) else (some false)) else (some false)
def chargenetlaw49_Small_b12 (a0_c : SCase) (kl_n_12 : Int → Option Bool) (t8_8 : Int) : Option Bool :=
  bif decide (t8_8 < ((a0_c.CDRs).length : Int)) then (guard ((0 : Int) ≤ t8_8 ∧ t8_8 < ((a0_c.CDRs).length : Int)) (bif decide (40 < (((a0_c.CDRs.getD t8_8.toNat dSCDR).Items).length : Int)) then (some false) else (kl_n_12 (IntKind.wrap .i64 (t8_8 + 1))))) else (chargenetlaw49_Small_p4 a0_c)
def chargenetlaw49_Small_l12 (a0_c : SCase) : Nat → Int → Option Bool
  | 0, _ => none
  | n + 1, t8_8 => chargenetlaw49_Small_b12 a0_c (fun t8_8 => chargenetlaw49_Small_l12 a0_c n t8_8) t8_8
def chargenetlaw49_Small (F : Nat) (a0_c : SCase) : Option Bool :=
  chargenetlaw49_Small_l12 a0_c F 0
def ident_value_p1  : Option Int :=
  some ((-1))
def ident_value_p8 (a0_r : Int) (t13_4 : Bool) : Option Int :=
  bif t13_4 then (some (IntKind.wrap .i64 (IntKind.wrap .i64 (IntKind.wrap .i32 (a0_r - 65)) + 10))) else (bif decide (97 ≤ a0_r) then (bif decide (a0_r ≤ 122) then (some (IntKind.wrap .i64 (IntKind.wrap .i64 (IntKind.wrap .i32 (a0_r - 97)) + 10))) else (ident_value_p1)) else (ident_value_p1))
def ident_value_p10 (a0_r : Int) (t3_2 : Bool) : Option Int :=
  bif t3_2 then (some (IntKind.wrap .i64 (IntKind.wrap .i32 (a0_r - 48)))) else (bif decide (65 ≤ a0_r) then (ident_value_p8 a0_r (decide (a0_r ≤ 90))) else (ident_value_p8 a0_r false))
def ident_value (F : Nat) (a0_r : Int) : Option Int :=
  bif decide (48 ≤ a0_r) then (ident_value_p10 a0_r (decide (a0_r ≤ 57))) else (ident_value_p10 a0_r false)
def ident_Valid_p3  : Option Bool :=
  some true
def ident_Valid_p36 (F : Nat) (a0_s : ByteArray) (pos_17 : Nat) (kl_n_29 : Nat → Option Bool) (t19_31 : Bool) : Option Bool :=
  bif t19_31 then (kl_n_29 (pos_17 + (Utf8.decode a0_s pos_17).2)) else ((ident_value F (((Utf8.decode a0_s pos_17).1 : Int))).bind fun c_33 => bif decide (c_33 < 0) then (some false) else (kl_n_29 (pos_17 + (Utf8.decode a0_s pos_17).2)))
def ident_Valid_b29 (F : Nat) (a0_s : ByteArray) (kl_n_29 : Nat → Option Bool) (pos_17 : Nat) : Option Bool :=
  bif decide (pos_17 < a0_s.size) then (bif decide (((Utf8.decode a0_s pos_17).1 : Int) = 45) then (ident_Valid_p36 F a0_s pos_17 kl_n_29 (decide (((Utf8.decode a0_s pos_17).1 : Int) = 45))) else (bif decide (((Utf8.decode a0_s pos_17).1 : Int) = 95) then (ident_Valid_p36 F a0_s pos_17 kl_n_29 (decide (((Utf8.decode a0_s pos_17).1 : Int) = 95))) else (bif decide (((Utf8.decode a0_s pos_17).1 : Int) = 46) then (ident_Valid_p36 F a0_s pos_17 kl_n_29 (decide (((Utf8.decode a0_s pos_17).1 : Int) = 46))) else (bif decide (((Utf8.decode a0_s pos_17).1 : Int) = 58) then (ident_Valid_p36 F a0_s pos_17 kl_n_29 (decide (((Utf8.decode a0_s pos_17).1 : Int) = 58))) else (ident_Valid_p36 F a0_s pos_17 kl_n_29 (decide (((Utf8.decode a0_s pos_17).1 : Int) = 42))))))) else (ident_Valid_p3)
def ident_Valid_l29 (F : Nat) (a0_s : ByteArray) : Nat → Nat → Option Bool
  | 0, _ => none
  | n + 1, pos_17 => ident_Valid_b29 F a0_s (fun pos_17 => ident_Valid_l29 F a0_s n pos_17) pos_17
def ident_Valid (F : Nat) (a0_s : ByteArray) : Option Bool :=
  bif decide ((a0_s.size : Int) < 1) then (some false) else (bif decide (36 < (a0_s.size : Int)) then (some false) else (ident_Valid_l29 F a0_s F 0))
def settle_parties (F : Nat) (a0_a : ByteArray) (a1_b : ByteArray) : Option Int :=
  (ident_Valid F a0_a).bind fun c_1 => bif (!c_1) then (some 4) else ((ident_Valid F a1_b).bind fun c_4 => bif (!c_4) then (some 4) else (bif sEq a0_a a1_b then (some 1) else (some 0)))
def settle_isCurrency_p2  : Option Bool :=
  some true
def settle_isCurrency_b14 (a0_s : ByteArray) (kl_n_14 : Int → Option Bool) (t9_8 : Int) : Option Bool :=
  bif decide (t9_8 < (a0_s.size : Int)) then (guard ((0 : Int) ≤ t9_8 ∧ t9_8 < (a0_s.size : Int)) (bif decide (sGet a0_s t9_8.toNat < 65) then (some false) else (guard ((0 : Int) ≤ t9_8 ∧ t9_8 < (a0_s.size : Int)) (bif decide (90 < sGet a0_s t9_8.toNat) then (some false) else (kl_n_14 (IntKind.wrap .i64 (t9_8 + 1))))))) else (settle_isCurrency_p2)
def settle_isCurrency_l14 (a0_s : ByteArray) : Nat → Int → Option Bool
  | 0, _ => none
  | n + 1, t9_8 => settle_isCurrency_b14 a0_s (fun t9_8 => settle_isCurrency_l14 a0_s n t9_8) t9_8
def settle_isCurrency (F : Nat) (a0_s : ByteArray) : Option Bool :=
  bif (!decide ((a0_s.size : Int) = 3)) then (some false) else (settle_isCurrency_l14 a0_s F 0)
def settle_checkBalance (F : Nat) (a0_b : SBalance) : Option Int :=
  (settle_parties F a0_b.Creditor a0_b.Debtor).bind fun c_1 => bif (!decide (c_1 = 0)) then (some c_1) else ((settle_isCurrency F a0_b.Currency).bind fun c_4 => bif (!c_4) then (some 21) else (bif decide (a0_b.Amount < 0) then (some 2) else (bif decide (1099511627776 < a0_b.Amount) then (some 2) else (some 0))))
def settle_net_p5 (o1_4 : List SBalance) : Option (List SBalance) :=
  some o1_4
def settle_net_p140 (a0_positions : List (ByteArray × Int)) (a1_currency : ByteArray) (o2_65 : List Int) (o3_66 : List SBalance) (kl_n_126 : (List Int) → (List SBalance) → Option (List SBalance)) (greatest_128 : Int) (least_129 : Int) : Option (List SBalance) :=
  guard ((0 : Int) ≤ greatest_128 ∧ greatest_128 < ((o2_65).length : Int)) (guard ((0 : Int) ≤ least_129 ∧ least_129 < ((o2_65).length : Int)) (bif decide ((if IntKind.wrap .i64 (0 - o2_65.getD least_129.toNat 0) < o2_65.getD greatest_128.toNat 0 then IntKind.wrap .i64 (0 - o2_65.getD least_129.toNat 0) else o2_65.getD greatest_128.toNat 0) ≤ 0) then (settle_net_p5 o3_66) else (guard ((0 : Int) ≤ greatest_128 ∧ greatest_128 < ((sortB (a0_positions.map Prod.fst)).length : Int)) (guard ((0 : Int) ≤ least_129 ∧ least_129 < ((sortB (a0_positions.map Prod.fst)).length : Int)) (guard (((o3_66).length + ([SBalance.mk ((sortB (a0_positions.map Prod.fst)).getD greatest_128.toNat ByteArray.empty) ((sortB (a0_positions.map Prod.fst)).getD least_129.toNat ByteArray.empty) a1_currency ((if IntKind.wrap .i64 (0 - o2_65.getD least_129.toNat 0) < o2_65.getD greatest_128.toNat 0 then IntKind.wrap .i64 (0 - o2_65.getD least_129.toNat 0) else o2_65.getD greatest_128.toNat 0))]).length) * 56 ≤ 140737488355328 ∧ (o3_66).length + ([SBalance.mk ((sortB (a0_positions.map Prod.fst)).getD greatest_128.toNat ByteArray.empty) ((sortB (a0_positions.map Prod.fst)).getD least_129.toNat ByteArray.empty) a1_currency ((if IntKind.wrap .i64 (0 - o2_65.getD least_129.toNat 0) < o2_65.getD greatest_128.toNat 0 then IntKind.wrap .i64 (0 - o2_65.getD least_129.toNat 0) else o2_65.getD greatest_128.toNat 0))]).length ≤ 140737488355328) (guard ((0 : Int) ≤ greatest_128 ∧ greatest_128 < ((o2_65).length : Int)) (guard ((0 : Int) ≤ greatest_128 ∧ greatest_128 < ((o2_65).length : Int)) (guard ((0 : Int) ≤ least_129 ∧ least_129 < ((o2_65.set greatest_128.toNat (IntKind.wrap .i64 (o2_65.getD greatest_128.toNat 0 - (if IntKind.wrap .i64 (0 - o2_65.getD least_129.toNat 0) < o2_65.getD greatest_128.toNat 0 then IntKind.wrap .i64 (0 - o2_65.getD least_129.toNat 0) else o2_65.getD greatest_128.toNat 0)))).length : Int)) (guard ((0 : Int) ≤ least_129 ∧ least_129 < ((o2_65.set greatest_128.toNat (IntKind.wrap .i64 (o2_65.getD greatest_128.toNat 0 - (if IntKind.wrap .i64 (0 - o2_65.getD least_129.toNat 0) < o2_65.getD greatest_128.toNat 0 then IntKind.wrap .i64 (0 - o2_65.getD least_129.toNat 0) else o2_65.getD greatest_128.toNat 0)))).length : Int)) (kl_n_126 ((o2_65.set greatest_128.toNat (IntKind.wrap .i64 (o2_65.getD greatest_128.toNat 0 - (if IntKind.wrap .i64 (0 - o2_65.getD least_129.toNat 0) < o2_65.getD greatest_128.toNat 0 then IntKind.wrap .i64 (0 - o2_65.getD least_129.toNat 0) else o2_65.getD greatest_128.toNat 0)))).set least_129.toNat (IntKind.wrap .i64 ((o2_65.set greatest_128.toNat (IntKind.wrap .i64 (o2_65.getD greatest_128.toNat 0 - (if IntKind.wrap .i64 (0 - o2_65.getD least_129.toNat 0) < o2_65.getD greatest_128.toNat 0 then IntKind.wrap .i64 (0 - o2_65.getD least_129.toNat 0) else o2_65.getD greatest_128.toNat 0)))).getD least_129.toNat 0 + (if IntKind.wrap .i64 (0 - o2_65.getD least_129.toNat 0) < o2_65.getD greatest_128.toNat 0 then IntKind.wrap .i64 (0 - o2_65.getD least_129.toNat 0) else o2_65.getD greatest_128.toNat 0)))) (o3_66 ++ ([SBalance.mk ((sortB (a0_positions.map Prod.fst)).getD greatest_128.toNat ByteArray.empty) ((sortB (a0_positions.map Prod.fst)).getD least_129.toNat ByteArray.empty) a1_currency ((if IntKind.wrap .i64 (0 - o2_65.getD least_129.toNat 0) < o2_65.getD greatest_128.toNat 0 then IntKind.wrap .i64 (0 - o2_65.getD least_129.toNat 0) else o2_65.getD greatest_128.toNat 0))]))))))))))))
def settle_net_p178 (t40_149 : Int) (kl_n_174 : Int → Int → Int → Option (List SBalance)) (greatest_177 : Int) (least_176 : Int) : Option (List SBalance) :=
  kl_n_174 greatest_177 least_176 (IntKind.wrap .i64 (t40_149 + 1))
def settle_net_p183 (o2_65 : List Int) (t40_149 : Int) (least_162 : Int) (kl_n_174 : Int → Int → Int → Option (List SBalance)) (greatest_180 : Int) : Option (List SBalance) :=
  guard ((0 : Int) ≤ least_162 ∧ least_162 < ((o2_65).length : Int)) (bif decide (o2_65.getD t40_149.toNat 0 < o2_65.getD least_162.toNat 0) then (settle_net_p178 t40_149 kl_n_174 greatest_180 t40_149) else (settle_net_p178 t40_149 kl_n_174 greatest_180 least_162))
def settle_net_b174 (a0_positions : List (ByteArray × Int)) (a1_currency : ByteArray) (o2_65 : List Int) (o3_66 : List SBalance) (kl_n_126 : (List Int) → (List SBalance) → Option (List SBalance)) (kl_n_174 : Int → Int → Int → Option (List SBalance)) (greatest_161 : Int) (least_162 : Int) (t40_149 : Int) : Option (List SBalance) :=
  bif decide (t40_149 < ((o2_65).length : Int)) then (guard ((0 : Int) ≤ t40_149 ∧ t40_149 < ((o2_65).length : Int)) (guard ((0 : Int) ≤ greatest_161 ∧ greatest_161 < ((o2_65).length : Int)) (bif decide (o2_65.getD greatest_161.toNat 0 < o2_65.getD t40_149.toNat 0) then (settle_net_p183 o2_65 t40_149 least_162 kl_n_174 t40_149) else (settle_net_p183 o2_65 t40_149 least_162 kl_n_174 greatest_161)))) else (settle_net_p140 a0_positions a1_currency o2_65 o3_66 kl_n_126 greatest_161 least_162)
def settle_net_l174 (a0_positions : List (ByteArray × Int)) (a1_currency : ByteArray) (o2_65 : List Int) (o3_66 : List SBalance) (kl_n_126 : (List Int) → (List SBalance) → Option (List SBalance)) : Nat → Int → Int → Int → Option (List SBalance)
  | 0, _, _, _ => none
  | n + 1, greatest_161, least_162, t40_149 => settle_net_b174 a0_positions a1_currency o2_65 o3_66 kl_n_126 (fun greatest_161 least_162 t40_149 => settle_net_l174 a0_positions a1_currency o2_65 o3_66 kl_n_126 n greatest_161 least_162 t40_149) greatest_161 least_162 t40_149
def settle_net_b126 (F : Nat) (a0_positions : List (ByteArray × Int)) (a1_currency : ByteArray) (kl_n_126 : (List Int) → (List SBalance) → Option (List SBalance)) (o2_65 : List Int) (o3_66 : List SBalance) : Option (List SBalance) :=
  bif decide (0 < ((o2_65).length : Int)) then (settle_net_l174 a0_positions a1_currency o2_65 o3_66 kl_n_126 F 0 0 0) else (settle_net_p5 o3_66)
def settle_net_l126 (F : Nat) (a0_positions : List (ByteArray × Int)) (a1_currency : ByteArray) : Nat → (List Int) → (List SBalance) → Option (List SBalance)
  | 0, _, _ => none
  | n + 1, o2_65, o3_66 => settle_net_b126 F a0_positions a1_currency (fun o2_65 o3_66 => settle_net_l126 F a0_positions a1_currency n o2_65 o3_66) o2_65 o3_66
def settle_net_p186 (F : Nat) (a0_positions : List (ByteArray × Int)) (a1_currency : ByteArray) (o2_3 : List Int) : Option (List SBalance) :=
  settle_net_l126 F a0_positions a1_currency F o2_3 (([] : List SBalance))
def settle_net_b195 (F : Nat) (a0_positions : List (ByteArray × Int)) (a1_currency : ByteArray) (kl_n_195 : Int → (List Int) → Option (List SBalance)) (t23_190 : Int) (o2_191 : List Int) : Option (List SBalance) :=
  bif decide (t23_190 < ((sortB (a0_positions.map Prod.fst)).length : Int)) then (guard ((0 : Int) ≤ t23_190 ∧ t23_190 < ((sortB (a0_positions.map Prod.fst)).length : Int)) (guard ((0 : Int) ≤ t23_190 ∧ t23_190 < ((o2_191).length : Int)) (kl_n_195 (IntKind.wrap .i64 (t23_190 + 1)) (o2_191.set t23_190.toNat ((alook a0_positions ((sortB (a0_positions.map Prod.fst)).getD t23_190.toNat ByteArray.empty)).getD 0))))) else (settle_net_p186 F a0_positions a1_currency o2_191)
def settle_net_l195 (F : Nat) (a0_positions : List (ByteArray × Int)) (a1_currency : ByteArray) : Nat → Int → (List Int) → Option (List SBalance)
  | 0, _, _ => none
  | n + 1, t23_190, o2_191 => settle_net_b195 F a0_positions a1_currency (fun t23_190 o2_191 => settle_net_l195 F a0_positions a1_currency n t23_190 o2_191) t23_190 o2_191
def settle_net (F : Nat) (a0_positions : List (ByteArray × Int)) (a1_currency : ByteArray) : Option (List SBalance) :=
  guard (keysOk (a0_positions.map Prod.fst) = true) (guard ((0 : Int) ≤ ((sortB (a0_positions.map Prod.fst)).length : Int) ∧ ((8 : Nat) : Int) * (((sortB (a0_positions.map Prod.fst)).length : Int)) ≤ 281474976710656 ∧ (((sortB (a0_positions.map Prod.fst)).length : Int) : Int) ≤ 281474976710656) (settle_net_l195 F a0_positions a1_currency F 0 (List.replicate (((sortB (a0_positions.map Prod.fst)).length : Int)).toNat (0 : Int))))
def settle_Net_p4 (o0_3 : List SBalance) : Option ((List SBalance) × Int) :=
  some ((o0_3, 0))
def settle_Net_b20 (F : Nat) (o0_2 : List (ByteArray × (List (ByteArray × Int)))) (kl_n_20 : Int → (List SBalance) → Option ((List SBalance) × Int)) (t69_12 : Int) (o1_13 : List SBalance) : Option ((List SBalance) × Int) :=
  bif decide (t69_12 < ((sortB (o0_2.map Prod.fst)).length : Int)) then (guard ((0 : Int) ≤ t69_12 ∧ t69_12 < ((sortB (o0_2.map Prod.fst)).length : Int)) (guard ((alook o0_2 ((sortB (o0_2.map Prod.fst)).getD t69_12.toNat ByteArray.empty)).isSome = true) ((settle_net F ((alook o0_2 ((sortB (o0_2.map Prod.fst)).getD t69_12.toNat ByteArray.empty)).getD []) ((sortB (o0_2.map Prod.fst)).getD t69_12.toNat ByteArray.empty)).bind fun c_24 => guard (((o1_13).length + (c_24).length) * 56 ≤ 140737488355328 ∧ (o1_13).length + (c_24).length ≤ 140737488355328) (kl_n_20 (IntKind.wrap .i64 (t69_12 + 1)) (o1_13 ++ c_24))))) else (settle_Net_p4 o1_13)
def settle_Net_l20 (F : Nat) (o0_2 : List (ByteArray × (List (ByteArray × Int)))) : Nat → Int → (List SBalance) → Option ((List SBalance) × Int)
  | 0, _, _ => none
  | n + 1, t69_12, o1_13 => settle_Net_b20 F o0_2 (fun t69_12 o1_13 => settle_Net_l20 F o0_2 n t69_12 o1_13) t69_12 o1_13
def settle_Net_p27 (F : Nat) (o0_2 : List (ByteArray × (List (ByteArray × Int)))) : Option ((List SBalance) × Int) :=
  guard (keysOk (o0_2.map Prod.fst) = true) (settle_Net_l20 F o0_2 F 0 (([] : List SBalance)))
def settle_Net_p50 (a0_l : List SBalance) (t31_35 : Int) (kl_n_44 : Int → (List (ByteArray × (List (ByteArray × Int)))) → Option ((List SBalance) × Int)) (o0_47 : List (ByteArray × (List (ByteArray × Int)))) : Option ((List SBalance) × Int) :=
  guard ((alook o0_47 ((a0_l.getD t31_35.toNat dSBalance).Currency)).isSome = true) (guard ((alook (aset o0_47 ((a0_l.getD t31_35.toNat dSBalance).Currency) (aset ((alook o0_47 ((a0_l.getD t31_35.toNat dSBalance).Currency)).getD []) ((a0_l.getD t31_35.toNat dSBalance).Creditor) (IntKind.wrap .i64 ((alook ((alook o0_47 ((a0_l.getD t31_35.toNat dSBalance).Currency)).getD []) ((a0_l.getD t31_35.toNat dSBalance).Creditor)).getD 0 + (a0_l.getD t31_35.toNat dSBalance).Amount)))) ((a0_l.getD t31_35.toNat dSBalance).Currency)).isSome = true) (kl_n_44 (IntKind.wrap .i64 (t31_35 + 1)) (aset (aset o0_47 ((a0_l.getD t31_35.toNat dSBalance).Currency) (aset ((alook o0_47 ((a0_l.getD t31_35.toNat dSBalance).Currency)).getD []) ((a0_l.getD t31_35.toNat dSBalance).Creditor) (IntKind.wrap .i64 ((alook ((alook o0_47 ((a0_l.getD t31_35.toNat dSBalance).Currency)).getD []) ((a0_l.getD t31_35.toNat dSBalance).Creditor)).getD 0 + (a0_l.getD t31_35.toNat dSBalance).Amount)))) ((a0_l.getD t31_35.toNat dSBalance).Currency) (aset ((alook (aset o0_47 ((a0_l.getD t31_35.toNat dSBalance).Currency) (aset ((alook o0_47 ((a0_l.getD t31_35.toNat dSBalance).Currency)).getD []) ((a0_l.getD t31_35.toNat dSBalance).Creditor) (IntKind.wrap .i64 ((alook ((alook o0_47 ((a0_l.getD t31_35.toNat dSBalance).Currency)).getD []) ((a0_l.getD t31_35.toNat dSBalance).Creditor)).getD 0 + (a0_l.getD t31_35.toNat dSBalance).Amount)))) ((a0_l.getD t31_35.toNat dSBalance).Currency)).getD []) ((a0_l.getD t31_35.toNat dSBalance).Debtor) (IntKind.wrap .i64 ((alook ((alook (aset o0_47 ((a0_l.getD t31_35.toNat dSBalance).Currency) (aset ((alook o0_47 ((a0_l.getD t31_35.toNat dSBalance).Currency)).getD []) ((a0_l.getD t31_35.toNat dSBalance).Creditor) (IntKind.wrap .i64 ((alook ((alook o0_47 ((a0_l.getD t31_35.toNat dSBalance).Currency)).getD []) ((a0_l.getD t31_35.toNat dSBalance).Creditor)).getD 0 + (a0_l.getD t31_35.toNat dSBalance).Amount)))) ((a0_l.getD t31_35.toNat dSBalance).Currency)).getD []) ((a0_l.getD t31_35.toNat dSBalance).Debtor)).getD 0 - (a0_l.getD t31_35.toNat dSBalance).Amount))))))
def settle_Net_b44 (F : Nat) (a0_l : List SBalance) (kl_n_44 : Int → (List (ByteArray × (List (ByteArray × Int)))) → Option ((List SBalance) × Int)) (t31_35 : Int) (o0_36 : List (ByteArray × (List (ByteArray × Int)))) : Option ((List SBalance) × Int) :=
  bif decide (t31_35 < ((a0_l).length : Int)) then (guard ((0 : Int) ≤ t31_35 ∧ t31_35 < ((a0_l).length : Int)) (bif (alook o0_36 ((a0_l.getD t31_35.toNat dSBalance).Currency)).isSome then (settle_Net_p50 a0_l t31_35 kl_n_44 o0_36) else (settle_Net_p50 a0_l t31_35 kl_n_44 (aset (o0_36 ++ [((a0_l.getD t31_35.toNat dSBalance).Currency, [])]) ((a0_l.getD t31_35.toNat dSBalance).Currency) (([] : List (ByteArray × Int))))))) else (settle_Net_p27 F o0_36)
def settle_Net_l44 (F : Nat) (a0_l : List SBalance) : Nat → Int → (List (ByteArray × (List (ByteArray × Int)))) → Option ((List SBalance) × Int)
  | 0, _, _ => none
  | n + 1, t31_35, o0_36 => settle_Net_b44 F a0_l (fun t31_35 o0_36 => settle_Net_l44 F a0_l n t31_35 o0_36) t31_35 o0_36
def settle_Net_p52 (F : Nat) (a0_l : List SBalance) : Option ((List SBalance) × Int) :=
  settle_Net_l44 F a0_l F 0 (([] : List (ByteArray × (List (ByteArray × Int)))))
def settle_Net_b64 (F : Nat) (a0_l : List SBalance) (kl_n_64 : Int → Option ((List SBalance) × Int)) (t18_58 : Int) : Option ((List SBalance) × Int) :=
  bif decide (t18_58 < ((a0_l).length : Int)) then (guard ((0 : Int) ≤ t18_58 ∧ t18_58 < ((a0_l).length : Int)) ((settle_checkBalance F (a0_l.getD t18_58.toNat dSBalance)).bind fun c_67 => bif (!decide (c_67 = 0)) then (some (([], c_67))) else (kl_n_64 (IntKind.wrap .i64 (t18_58 + 1))))) else (settle_Net_p52 F a0_l)
def settle_Net_l64 (F : Nat) (a0_l : List SBalance) : Nat → Int → Option ((List SBalance) × Int)
  | 0, _ => none
  | n + 1, t18_58 => settle_Net_b64 F a0_l (fun t18_58 => settle_Net_l64 F a0_l n t18_58) t18_58
def settle_Net (F : Nat) (a0_l : List SBalance) : Option ((List SBalance) × Int) :=
  bif decide (1024 < ((a0_l).length : Int)) then (some (([], 3))) else (settle_Net_l64 F a0_l F 0)
def chargenetlaw49_exampleHolds (F : Nat)  : Option Bool :=
  (settle_Net F ([SBalance.mk (ByteArray.mk #[65]) (ByteArray.mk #[66]) (ByteArray.mk #[69, 85, 82]) 5, SBalance.mk (ByteArray.mk #[66]) (ByteArray.mk #[67]) (ByteArray.mk #[69, 85, 82]) 5])).bind fun c_1 => (settle_Net F ([SBalance.mk (ByteArray.mk #[65]) (ByteArray.mk #[66]) (ByteArray.mk #[69, 85, 82]) 5, SBalance.mk (ByteArray.mk #[66]) (ByteArray.mk #[65]) (ByteArray.mk #[69, 85, 82]) 5])).bind fun c_3 => bif decide (c_1.2 = 0) then (bif decide (c_3.2 = 0) then (bif decide (((c_3.1).length : Int) = 0) then (bif decide (((c_1.1).length : Int) = 1) then (guard ((0 : Int) ≤ 0 ∧ 0 < ((c_1.1).length : Int)) (some ((xor false (sEq ((c_1.1.getD (0 : Int).toNat dSBalance).Creditor) (ByteArray.mk #[65]) && (sEq ((c_1.1.getD (0 : Int).toNat dSBalance).Debtor) (ByteArray.mk #[67]) && (sEq ((c_1.1.getD (0 : Int).toNat dSBalance).Currency) (ByteArray.mk #[69, 85, 82]) && (decide ((c_1.1.getD (0 : Int).toNat dSBalance).Amount = 5) && true)))))))) else (some false)) else (some false)) else (some false)) else (some false)
def chargenetref01_Capital_p1 (a0_c : Int) : Option Int :=
  some a0_c
def chargenetref01_Capital (F : Nat) (a0_c : Int) : Option Int :=
  bif decide (97 ≤ a0_c) then (bif decide (a0_c ≤ 122) then (some (IntKind.wrap .u8 (a0_c - 32))) else (chargenetref01_Capital_p1 a0_c)) else (chargenetref01_Capital_p1 a0_c)
def chargenetref01_Value_p1  : Option Int :=
  some ((-1))
def chargenetref01_Value_b13 (F : Nat) (a0_c : Int) (kl_n_13 : Int → Option Int) (v_7 : Int) : Option Int :=
  bif decide (v_7 < 36) then (guard ((0 : Int) ≤ v_7 ∧ v_7 < ((ByteArray.mk #[48, 49, 50, 51, 52, 53, 54, 55, 56, 57, 65, 66, 67, 68, 69, 70, 71, 72, 73, 74, 75, 76, 77, 78, 79, 80, 81, 82, 83, 84, 85, 86, 87, 88, 89, 90]).size : Int)) ((chargenetref01_Capital F a0_c).bind fun c_16 => bif decide (sGet (ByteArray.mk #[48, 49, 50, 51, 52, 53, 54, 55, 56, 57, 65, 66, 67, 68, 69, 70, 71, 72, 73, 74, 75, 76, 77, 78, 79, 80, 81, 82, 83, 84, 85, 86, 87, 88, 89, 90]) v_7.toNat = c_16) then (some v_7) else (kl_n_13 (IntKind.wrap .i64 (v_7 + 1))))) else (chargenetref01_Value_p1)
def chargenetref01_Value_l13 (F : Nat) (a0_c : Int) : Nat → Int → Option Int
  | 0, _ => none
  | n + 1, v_7 => chargenetref01_Value_b13 F a0_c (fun v_7 => chargenetref01_Value_l13 F a0_c n v_7) v_7
def chargenetref01_Value (F : Nat) (a0_c : Int) : Option Int :=
  chargenetref01_Value_l13 F a0_c F 0
def chargenetref01_Valid_p3  : Option Bool :=
  some true
def chargenetref01_Valid_p29 (i_15 : Int) (kl_n_27 : Int → Option Bool) : Option Bool :=
  kl_n_27 (IntKind.wrap .i64 (i_15 + 1))
def chargenetref01_Valid_b27 (F : Nat) (a0_s : ByteArray) (kl_n_27 : Int → Option Bool) (i_15 : Int) : Option Bool :=
  bif decide (i_15 < (a0_s.size : Int)) then (guard ((0 : Int) ≤ i_15 ∧ i_15 < (a0_s.size : Int)) ((chargenetref01_Value F (sGet a0_s i_15.toNat)).bind fun c_31 => bif decide (c_31 < 0) then (bif (!decide (sGet a0_s i_15.toNat = 45)) then (bif (!decide (sGet a0_s i_15.toNat = 95)) then (bif (!decide (sGet a0_s i_15.toNat = 46)) then (bif (!decide (sGet a0_s i_15.toNat = 58)) then (bif (!decide (sGet a0_s i_15.toNat = 42)) then (some false) else (chargenetref01_Valid_p29 i_15 kl_n_27)) else (chargenetref01_Valid_p29 i_15 kl_n_27)) else (chargenetref01_Valid_p29 i_15 kl_n_27)) else (chargenetref01_Valid_p29 i_15 kl_n_27)) else (chargenetref01_Valid_p29 i_15 kl_n_27)) else (chargenetref01_Valid_p29 i_15 kl_n_27))) else (chargenetref01_Valid_p3)
def chargenetref01_Valid_l27 (F : Nat) (a0_s : ByteArray) : Nat → Int → Option Bool
  | 0, _ => none
  | n + 1, i_15 => chargenetref01_Valid_b27 F a0_s (fun i_15 => chargenetref01_Valid_l27 F a0_s n i_15) i_15
def chargenetref01_Valid (F : Nat) (a0_s : ByteArray) : Option Bool :=
  bif decide ((a0_s.size : Int) < 1) then (some false) else (bif decide (36 < (a0_s.size : Int)) then (some false) else (chargenetref01_Valid_l27 F a0_s F 0))
def chargenetref46_in (F : Nat) (a0_x : Int) (a1_low : Int) (a2_high : Int) : Option Bool :=
  bif decide (a1_low ≤ a0_x) then (some (decide (a0_x ≤ a2_high))) else (some false)
def chargenetref46_currency_p1 (a0_s : ByteArray) : Option Bool :=
  some (decide ((a0_s.size : Int) = 3))
def chargenetref46_currency_b13 (a0_s : ByteArray) (kl_n_13 : Int → Option Bool) (i_7 : Int) : Option Bool :=
  bif decide (i_7 < (a0_s.size : Int)) then (guard ((0 : Int) ≤ i_7 ∧ i_7 < (a0_s.size : Int)) (bif decide (sGet a0_s i_7.toNat < 65) then (some false) else (guard ((0 : Int) ≤ i_7 ∧ i_7 < (a0_s.size : Int)) (bif decide (90 < sGet a0_s i_7.toNat) then (some false) else (kl_n_13 (IntKind.wrap .i64 (i_7 + 1))))))) else (chargenetref46_currency_p1 a0_s)
def chargenetref46_currency_l13 (a0_s : ByteArray) : Nat → Int → Option Bool
  | 0, _ => none
  | n + 1, i_7 => chargenetref46_currency_b13 a0_s (fun i_7 => chargenetref46_currency_l13 a0_s n i_7) i_7
def chargenetref46_currency (F : Nat) (a0_s : ByteArray) : Option Bool :=
  chargenetref46_currency_l13 a0_s F 0
def chargenetref46_item (F : Nat) (a0_x : SItem) : Option Bool :=
  (chargenetref46_in F a0_x.Kind 1 4).bind fun c_1 => bif c_1 then ((chargenetref46_in F a0_x.Tax 0 10000).bind fun c_4 => bif c_4 then ((chargenetref46_in F a0_x.Net ((-36028797018963968)) 36028797018963968).bind fun c_7 => bif c_7 then ((chargenetref46_in F a0_x.Vat ((-36028797018963968)) 36028797018963968).bind fun c_10 => bif c_10 then ((chargenetref46_in F a0_x.Price ((-36028797018963968)) 36028797018963968).bind fun c_13 => bif c_13 then ((chargenetref46_in F a0_x.Quantity 0 36028797018963968).bind fun c_16 => bif c_16 then (some (decide (a0_x.Gross = IntKind.wrap .i64 (a0_x.Net + a0_x.Vat)))) else (some false)) else (some false)) else (some false)) else (some false)) else (some false)) else (some false)
def chargenetref46_Valid_p32  : Option Int :=
  some 0
def chargenetref46_Valid_p39 (a0_c : SCDR) : Option Int :=
  bif a0_c.Credit then (bif sEq a0_c.Ref a0_c.ID then (some 1) else (bif (!a0_c.Credit) then (bif (!(sEq a0_c.Ref ByteArray.empty)) then (some 1) else (chargenetref46_Valid_p32)) else (chargenetref46_Valid_p32))) else (bif (!a0_c.Credit) then (bif (!(sEq a0_c.Ref ByteArray.empty)) then (some 1) else (chargenetref46_Valid_p32)) else (chargenetref46_Valid_p32))
def chargenetref46_Valid_p44 (F : Nat) (a0_c : SCDR) (sum_30 : Int) : Option Int :=
  bif (!decide (a0_c.Total = sum_30)) then (some 1) else (bif a0_c.Credit then ((chargenetref01_Valid F a0_c.Ref).bind fun c_41 => bif (!c_41) then (some 4) else (chargenetref46_Valid_p39 a0_c)) else (chargenetref46_Valid_p39 a0_c))
def chargenetref46_Valid_b59 (F : Nat) (a0_c : SCDR) (kl_n_59 : Int → Int → Option Int) (sum_51 : Int) (i_52 : Int) : Option Int :=
  bif decide (i_52 < ((a0_c.Items).length : Int)) then (guard ((0 : Int) ≤ i_52 ∧ i_52 < ((a0_c.Items).length : Int)) ((chargenetref46_item F (a0_c.Items.getD i_52.toNat dSItem)).bind fun c_62 => bif (!c_62) then (some 1) else (guard ((0 : Int) ≤ i_52 ∧ i_52 < ((a0_c.Items).length : Int)) (kl_n_59 (IntKind.wrap .i64 (sum_51 + (a0_c.Items.getD i_52.toNat dSItem).Gross)) (IntKind.wrap .i64 (i_52 + 1)))))) else (chargenetref46_Valid_p44 F a0_c sum_51)
def chargenetref46_Valid_l59 (F : Nat) (a0_c : SCDR) : Nat → Int → Int → Option Int
  | 0, _, _ => none
  | n + 1, sum_51, i_52 => chargenetref46_Valid_b59 F a0_c (fun sum_51 i_52 => chargenetref46_Valid_l59 F a0_c n sum_51 i_52) sum_51 i_52
def chargenetref46_Valid (F : Nat) (a0_c : SCDR) : Option Int :=
  (chargenetref01_Valid F a0_c.ID).bind fun c_1 => bif (!c_1) then (some 4) else ((chargenetref01_Valid F a0_c.Operator).bind fun c_4 => bif (!c_4) then (some 4) else ((chargenetref01_Valid F a0_c.Provider).bind fun c_7 => bif (!c_7) then (some 4) else ((chargenetref01_Valid F a0_c.Session).bind fun c_10 => bif (!c_10) then (some 4) else ((chargenetref01_Valid F a0_c.Tariff).bind fun c_13 => bif (!c_13) then (some 4) else (bif sEq a0_c.Operator a0_c.Provider then (some 1) else ((chargenetref46_in F a0_c.Version 1 2147483647).bind fun c_17 => bif (!c_17) then (some 2) else (bif decide (a0_c.Start < 0) then (some 2) else (bif decide (a0_c.End < a0_c.Start) then (some 2) else (bif decide (268435456 < a0_c.End) then (some 2) else ((chargenetref46_in F a0_c.Energy 0 36028797018963968).bind fun c_23 => bif (!c_23) then (some 2) else ((chargenetref46_currency F a0_c.Currency).bind fun c_26 => bif (!c_26) then (some 21) else (bif decide (32 < ((a0_c.Items).length : Int)) then (some 3) else (chargenetref46_Valid_l59 F a0_c F 0 0)))))))))))))
def chargenetref43_Negate_p2 (o0_1 : List SItem) : Option (List SItem) :=
  some o0_1
def chargenetref43_Negate_b11 (a0_l : List SItem) (kl_n_11 : Int → (List SItem) → Option (List SItem)) (i_6 : Int) (o0_7 : List SItem) : Option (List SItem) :=
  bif decide (i_6 < ((a0_l).length : Int)) then (guard ((0 : Int) ≤ i_6 ∧ i_6 < ((a0_l).length : Int)) (guard (((o0_7).length + ([SItem.mk ((a0_l.getD i_6.toNat dSItem).Kind) (IntKind.wrap .i64 (0 - (a0_l.getD i_6.toNat dSItem).Price)) ((a0_l.getD i_6.toNat dSItem).Tax) ((a0_l.getD i_6.toNat dSItem).Quantity) (IntKind.wrap .i64 (0 - (a0_l.getD i_6.toNat dSItem).Net)) (IntKind.wrap .i64 (0 - (a0_l.getD i_6.toNat dSItem).Vat)) (IntKind.wrap .i64 (0 - (a0_l.getD i_6.toNat dSItem).Gross))]).length) * 56 ≤ 140737488355328 ∧ (o0_7).length + ([SItem.mk ((a0_l.getD i_6.toNat dSItem).Kind) (IntKind.wrap .i64 (0 - (a0_l.getD i_6.toNat dSItem).Price)) ((a0_l.getD i_6.toNat dSItem).Tax) ((a0_l.getD i_6.toNat dSItem).Quantity) (IntKind.wrap .i64 (0 - (a0_l.getD i_6.toNat dSItem).Net)) (IntKind.wrap .i64 (0 - (a0_l.getD i_6.toNat dSItem).Vat)) (IntKind.wrap .i64 (0 - (a0_l.getD i_6.toNat dSItem).Gross))]).length ≤ 140737488355328) (kl_n_11 (IntKind.wrap .i64 (i_6 + 1)) (o0_7 ++ ([SItem.mk ((a0_l.getD i_6.toNat dSItem).Kind) (IntKind.wrap .i64 (0 - (a0_l.getD i_6.toNat dSItem).Price)) ((a0_l.getD i_6.toNat dSItem).Tax) ((a0_l.getD i_6.toNat dSItem).Quantity) (IntKind.wrap .i64 (0 - (a0_l.getD i_6.toNat dSItem).Net)) (IntKind.wrap .i64 (0 - (a0_l.getD i_6.toNat dSItem).Vat)) (IntKind.wrap .i64 (0 - (a0_l.getD i_6.toNat dSItem).Gross))]))))) else (chargenetref43_Negate_p2 o0_7)
def chargenetref43_Negate_l11 (a0_l : List SItem) : Nat → Int → (List SItem) → Option (List SItem)
  | 0, _, _ => none
  | n + 1, i_6, o0_7 => chargenetref43_Negate_b11 a0_l (fun i_6 o0_7 => chargenetref43_Negate_l11 a0_l n i_6 o0_7) i_6 o0_7
def chargenetref43_Negate (F : Nat) (a0_l : List SItem) : Option (List SItem) :=
  chargenetref43_Negate_l11 a0_l F 0 (([] : List SItem))
def chargenetref46_Credit (F : Nat) (a0_c : SCDR) (a1_id : ByteArray) : Option (SCDR × Int) :=
  (chargenetref46_Valid F a0_c).bind fun c_1 => bif (!decide (c_1 = 0)) then (some ((SCDR.mk ByteArray.empty ByteArray.empty ByteArray.empty ByteArray.empty 0 0 0 0 ByteArray.empty ByteArray.empty ([]) 0 false ByteArray.empty, c_1))) else (bif a0_c.Credit then (some ((SCDR.mk ByteArray.empty ByteArray.empty ByteArray.empty ByteArray.empty 0 0 0 0 ByteArray.empty ByteArray.empty ([]) 0 false ByteArray.empty, 10))) else ((chargenetref01_Valid F a1_id).bind fun c_5 => bif (!c_5) then (some ((SCDR.mk ByteArray.empty ByteArray.empty ByteArray.empty ByteArray.empty 0 0 0 0 ByteArray.empty ByteArray.empty ([]) 0 false ByteArray.empty, 4))) else (bif sEq a1_id a0_c.ID then (some ((SCDR.mk ByteArray.empty ByteArray.empty ByteArray.empty ByteArray.empty 0 0 0 0 ByteArray.empty ByteArray.empty ([]) 0 false ByteArray.empty, 9))) else ((chargenetref43_Negate F a0_c.Items).bind fun c_9 => some ((SCDR.mk a1_id a0_c.Operator a0_c.Provider a0_c.Session a0_c.Version a0_c.Start a0_c.End a0_c.Energy a0_c.Tariff a0_c.Currency c_9 (IntKind.wrap .i64 (0 - a0_c.Total)) true a0_c.ID, 0))))))
def cdr_names_p1  : Option Int :=
  some 0
def cdr_names_b13 (F : Nat) (a0_l : List ByteArray) (kl_n_13 : Int → Option Int) (t7_7 : Int) : Option Int :=
  bif decide (t7_7 < ((a0_l).length : Int)) then (guard ((0 : Int) ≤ t7_7 ∧ t7_7 < ((a0_l).length : Int)) ((ident_Valid F (a0_l.getD t7_7.toNat ByteArray.empty)).bind fun c_16 => bif (!c_16) then (some 4) else (kl_n_13 (IntKind.wrap .i64 (t7_7 + 1))))) else (cdr_names_p1)
def cdr_names_l13 (F : Nat) (a0_l : List ByteArray) : Nat → Int → Option Int
  | 0, _ => none
  | n + 1, t7_7 => cdr_names_b13 F a0_l (fun t7_7 => cdr_names_l13 F a0_l n t7_7) t7_7
def cdr_names (F : Nat) (a0_l : List ByteArray) : Option Int :=
  cdr_names_l13 F a0_l F 0
def cdr_within_p1  : Option Bool :=
  some true
def cdr_within_b11 (a0_least : Int) (a1_most : Int) (a2_l : List Int) (kl_n_11 : Int → Option Bool) (t11_6 : Int) : Option Bool :=
  bif decide (t11_6 < ((a2_l).length : Int)) then (guard ((0 : Int) ≤ t11_6 ∧ t11_6 < ((a2_l).length : Int)) (bif decide (a2_l.getD t11_6.toNat 0 < a0_least) then (some false) else (bif decide (a1_most < a2_l.getD t11_6.toNat 0) then (some false) else (kl_n_11 (IntKind.wrap .i64 (t11_6 + 1)))))) else (cdr_within_p1)
def cdr_within_l11 (a0_least : Int) (a1_most : Int) (a2_l : List Int) : Nat → Int → Option Bool
  | 0, _ => none
  | n + 1, t11_6 => cdr_within_b11 a0_least a1_most a2_l (fun t11_6 => cdr_within_l11 a0_least a1_most a2_l n t11_6) t11_6
def cdr_within (F : Nat) (a0_least : Int) (a1_most : Int) (a2_l : List Int) : Option Bool :=
  cdr_within_l11 a0_least a1_most a2_l F 0
def cdr_isCurrency_p2  : Option Bool :=
  some true
def cdr_isCurrency_b14 (a0_s : ByteArray) (kl_n_14 : Int → Option Bool) (t9_8 : Int) : Option Bool :=
  bif decide (t9_8 < (a0_s.size : Int)) then (guard ((0 : Int) ≤ t9_8 ∧ t9_8 < (a0_s.size : Int)) (bif decide (sGet a0_s t9_8.toNat < 65) then (some false) else (guard ((0 : Int) ≤ t9_8 ∧ t9_8 < (a0_s.size : Int)) (bif decide (90 < sGet a0_s t9_8.toNat) then (some false) else (kl_n_14 (IntKind.wrap .i64 (t9_8 + 1))))))) else (cdr_isCurrency_p2)
def cdr_isCurrency_l14 (a0_s : ByteArray) : Nat → Int → Option Bool
  | 0, _ => none
  | n + 1, t9_8 => cdr_isCurrency_b14 a0_s (fun t9_8 => cdr_isCurrency_l14 a0_s n t9_8) t9_8
def cdr_isCurrency (F : Nat) (a0_s : ByteArray) : Option Bool :=
  bif (!decide ((a0_s.size : Int) = 3)) then (some false) else (cdr_isCurrency_l14 a0_s F 0)
def cdr_validItem (F : Nat) (a0_i : SItem) : Option Bool :=
  (cdr_within F 1 4 ([a0_i.Kind])).bind fun c_1 => bif c_1 then ((cdr_within F 0 10000 ([a0_i.Tax])).bind fun c_4 => bif c_4 then ((cdr_within F ((-36028797018963968)) 36028797018963968 ([a0_i.Net, a0_i.Vat, a0_i.Price])).bind fun c_7 => bif c_7 then ((cdr_within F 0 36028797018963968 ([a0_i.Quantity])).bind fun c_10 => bif c_10 then (some (decide (a0_i.Gross = IntKind.wrap .i64 (a0_i.Net + a0_i.Vat)))) else (some false)) else (some false)) else (some false)) else (some false)
def cdr_validItems_p4 (a0_c : SCDR) (total_2 : Int) : Option Int :=
  bif (!decide (a0_c.Total = total_2)) then (some 1) else (some 0)
def cdr_validItems_b17 (F : Nat) (a0_c : SCDR) (kl_n_17 : Int → Int → Option Int) (total_10 : Int) (t13_11 : Int) : Option Int :=
  bif decide (t13_11 < ((a0_c.Items).length : Int)) then (guard ((0 : Int) ≤ t13_11 ∧ t13_11 < ((a0_c.Items).length : Int)) ((cdr_validItem F (a0_c.Items.getD t13_11.toNat dSItem)).bind fun c_20 => bif (!c_20) then (some 1) else (kl_n_17 (IntKind.wrap .i64 (total_10 + (a0_c.Items.getD t13_11.toNat dSItem).Gross)) (IntKind.wrap .i64 (t13_11 + 1))))) else (cdr_validItems_p4 a0_c total_10)
def cdr_validItems_l17 (F : Nat) (a0_c : SCDR) : Nat → Int → Int → Option Int
  | 0, _, _ => none
  | n + 1, total_10, t13_11 => cdr_validItems_b17 F a0_c (fun total_10 t13_11 => cdr_validItems_l17 F a0_c n total_10 t13_11) total_10 t13_11
def cdr_validItems (F : Nat) (a0_c : SCDR) : Option Int :=
  bif decide (32 < ((a0_c.Items).length : Int)) then (some 3) else (cdr_validItems_l17 F a0_c F 0 0)
def cdr_validRef (F : Nat) (a0_c : SCDR) : Option Int :=
  bif (!a0_c.Credit) then (bif (!(sEq a0_c.Ref ByteArray.empty)) then (some 1) else (some 0)) else ((ident_Valid F a0_c.Ref).bind fun c_3 => bif (!c_3) then (some 4) else (bif sEq a0_c.Ref a0_c.ID then (some 1) else (some 0)))
def cdr_Valid (F : Nat) (a0_c : SCDR) : Option Int :=
  (cdr_names F ([a0_c.ID, a0_c.Operator, a0_c.Provider, a0_c.Session, a0_c.Tariff])).bind fun c_1 => bif (!decide (c_1 = 0)) then (some c_1) else (bif sEq a0_c.Operator a0_c.Provider then (some 1) else ((cdr_within F 1 2147483647 ([a0_c.Version])).bind fun c_5 => bif (!c_5) then (some 2) else ((cdr_within F 0 268435456 ([a0_c.Start, a0_c.End])).bind fun c_8 => bif (!c_8) then (some 2) else (bif decide (a0_c.End < a0_c.Start) then (some 2) else ((cdr_within F 0 36028797018963968 ([a0_c.Energy])).bind fun c_12 => bif (!c_12) then (some 2) else ((cdr_isCurrency F a0_c.Currency).bind fun c_15 => bif (!c_15) then (some 21) else ((cdr_validItems F a0_c).bind fun c_18 => bif (!decide (c_18 = 0)) then (some c_18) else ((cdr_validRef F a0_c).bind fun c_21 => some c_21))))))))
def dispute_Valid (F : Nat) (a0_d : SDispute) : Option Int :=
  (ident_Valid F a0_d.CDR).bind fun c_1 => bif (!c_1) then (some 4) else ((ident_Valid F a0_d.By).bind fun c_4 => bif (!c_4) then (some 4) else (bif decide (a0_d.State < 1) then (some 2) else (bif decide (6 < a0_d.State) then (some 2) else (bif decide (a0_d.Opened < 0) then (some 2) else (bif decide (268435456 < a0_d.Opened) then (some 2) else (bif decide (a0_d.Claim < 1) then (some 2) else (bif decide (36028797018963968 < a0_d.Claim) then (some 2) else (bif decide (a0_d.Granted < 0) then (some 2) else (bif decide (a0_d.Claim < a0_d.Granted) then (some 2) else (bif (!(decide (a0_d.Granted = 0) == (!decide (a0_d.State = 4)))) then (some 1) else (some 0)))))))))))
def settle_check_p10 (F : Nat) (a2_creditor : ByteArray) (a3_debtor : ByteArray) (a4_currency : ByteArray) (a5_s : SSpan) : Option Int :=
  (settle_parties F a2_creditor a3_debtor).bind fun c_1 => bif (!decide (c_1 = 0)) then (some c_1) else ((settle_isCurrency F a4_currency).bind fun c_4 => bif (!c_4) then (some 21) else (bif decide (a5_s.From < 0) then (some 2) else (bif decide (a5_s.To < a5_s.From) then (some 2) else (bif decide (268435456 < a5_s.To) then (some 2) else (some 0)))))
def settle_check_b22 (F : Nat) (a1_ds : List SDispute) (a2_creditor : ByteArray) (a3_debtor : ByteArray) (a4_currency : ByteArray) (a5_s : SSpan) (kl_n_22 : Int → Option Int) (t34_16 : Int) : Option Int :=
  bif decide (t34_16 < ((a1_ds).length : Int)) then (guard ((0 : Int) ≤ t34_16 ∧ t34_16 < ((a1_ds).length : Int)) ((dispute_Valid F (a1_ds.getD t34_16.toNat dSDispute)).bind fun c_25 => bif (!decide (c_25 = 0)) then (some c_25) else (kl_n_22 (IntKind.wrap .i64 (t34_16 + 1))))) else (settle_check_p10 F a2_creditor a3_debtor a4_currency a5_s)
def settle_check_l22 (F : Nat) (a1_ds : List SDispute) (a2_creditor : ByteArray) (a3_debtor : ByteArray) (a4_currency : ByteArray) (a5_s : SSpan) : Nat → Int → Option Int
  | 0, _ => none
  | n + 1, t34_16 => settle_check_b22 F a1_ds a2_creditor a3_debtor a4_currency a5_s (fun t34_16 => settle_check_l22 F a1_ds a2_creditor a3_debtor a4_currency a5_s n t34_16) t34_16
def settle_check_p28 (F : Nat) (a1_ds : List SDispute) (a2_creditor : ByteArray) (a3_debtor : ByteArray) (a4_currency : ByteArray) (a5_s : SSpan) : Option Int :=
  settle_check_l22 F a1_ds a2_creditor a3_debtor a4_currency a5_s F 0
def settle_check_b40 (F : Nat) (a0_l : List SCDR) (a1_ds : List SDispute) (a2_creditor : ByteArray) (a3_debtor : ByteArray) (a4_currency : ByteArray) (a5_s : SSpan) (kl_n_40 : Int → Option Int) (t22_34 : Int) : Option Int :=
  bif decide (t22_34 < ((a0_l).length : Int)) then (guard ((0 : Int) ≤ t22_34 ∧ t22_34 < ((a0_l).length : Int)) ((cdr_Valid F (a0_l.getD t22_34.toNat dSCDR)).bind fun c_43 => bif (!decide (c_43 = 0)) then (some c_43) else (kl_n_40 (IntKind.wrap .i64 (t22_34 + 1))))) else (settle_check_p28 F a1_ds a2_creditor a3_debtor a4_currency a5_s)
def settle_check_l40 (F : Nat) (a0_l : List SCDR) (a1_ds : List SDispute) (a2_creditor : ByteArray) (a3_debtor : ByteArray) (a4_currency : ByteArray) (a5_s : SSpan) : Nat → Int → Option Int
  | 0, _ => none
  | n + 1, t22_34 => settle_check_b40 F a0_l a1_ds a2_creditor a3_debtor a4_currency a5_s (fun t22_34 => settle_check_l40 F a0_l a1_ds a2_creditor a3_debtor a4_currency a5_s n t22_34) t22_34
def settle_check (F : Nat) (a0_l : List SCDR) (a1_ds : List SDispute) (a2_creditor : ByteArray) (a3_debtor : ByteArray) (a4_currency : ByteArray) (a5_s : SSpan) : Option Int :=
  settle_check_l40 F a0_l a1_ds a2_creditor a3_debtor a4_currency a5_s F 0
def settle_grants_own_p2 (o0_1 : List (ByteArray × SDispute)) : Option (List (ByteArray × SDispute)) :=
  some o0_1
def settle_grants_own_p20 (t11_9 : Int) (kl_n_17 : Int → (List (ByteArray × SDispute)) → Option (List (ByteArray × SDispute))) (o0_19 : List (ByteArray × SDispute)) : Option (List (ByteArray × SDispute)) :=
  kl_n_17 (IntKind.wrap .i64 (t11_9 + 1)) o0_19
def settle_grants_own_b17 (a0_ds : List SDispute) (kl_n_17 : Int → (List (ByteArray × SDispute)) → Option (List (ByteArray × SDispute))) (t11_9 : Int) (o0_10 : List (ByteArray × SDispute)) : Option (List (ByteArray × SDispute)) :=
  bif decide (t11_9 < ((a0_ds).length : Int)) then (guard ((0 : Int) ≤ t11_9 ∧ t11_9 < ((a0_ds).length : Int)) (bif (!((alook o0_10 ((a0_ds.getD t11_9.toNat dSDispute).CDR)).isSome)) then (bif decide ((a0_ds.getD t11_9.toNat dSDispute).State = 4) then (settle_grants_own_p20 t11_9 kl_n_17 (aset o0_10 ((a0_ds.getD t11_9.toNat dSDispute).CDR) (a0_ds.getD t11_9.toNat dSDispute))) else (settle_grants_own_p20 t11_9 kl_n_17 o0_10)) else (settle_grants_own_p20 t11_9 kl_n_17 o0_10))) else (settle_grants_own_p2 o0_10)
def settle_grants_own_l17 (a0_ds : List SDispute) : Nat → Int → (List (ByteArray × SDispute)) → Option (List (ByteArray × SDispute))
  | 0, _, _ => none
  | n + 1, t11_9, o0_10 => settle_grants_own_b17 a0_ds (fun t11_9 o0_10 => settle_grants_own_l17 a0_ds n t11_9 o0_10) t11_9 o0_10
def settle_grants_own (F : Nat) (a0_ds : List SDispute) : Option (List (ByteArray × SDispute)) :=
  settle_grants_own_l17 a0_ds F 0 (([] : List (ByteArray × SDispute)))
def dispute_Amount_p1 (a0_c : SCDR) : Option Int :=
  some a0_c.Total
def dispute_Amount_p15 (t9_7 : Int) (kl_n_13 : Int → Option Int) : Option Int :=
  kl_n_13 (IntKind.wrap .i64 (t9_7 + 1))
def dispute_Amount_b13 (a0_c : SCDR) (a1_l : List SDispute) (kl_n_13 : Int → Option Int) (t9_7 : Int) : Option Int :=
  bif decide (t9_7 < ((a1_l).length : Int)) then (guard ((0 : Int) ≤ t9_7 ∧ t9_7 < ((a1_l).length : Int)) (bif sEq ((a1_l.getD t9_7.toNat dSDispute).CDR) a0_c.ID then (bif decide ((a1_l.getD t9_7.toNat dSDispute).State = 4) then (some (IntKind.wrap .i64 (a0_c.Total - (a1_l.getD t9_7.toNat dSDispute).Granted))) else (dispute_Amount_p15 t9_7 kl_n_13)) else (dispute_Amount_p15 t9_7 kl_n_13))) else (dispute_Amount_p1 a0_c)
def dispute_Amount_l13 (a0_c : SCDR) (a1_l : List SDispute) : Nat → Int → Option Int
  | 0, _ => none
  | n + 1, t9_7 => dispute_Amount_b13 a0_c a1_l (fun t9_7 => dispute_Amount_l13 a0_c a1_l n t9_7) t9_7
def dispute_Amount (F : Nat) (a0_c : SCDR) (a1_l : List SDispute) : Option Int :=
  dispute_Amount_l13 a0_c a1_l F 0
def money_Sum_p3 (low_2 : Int) : Option (Int × Int) :=
  some ((IntKind.wrap .i64 low_2, 0))
def money_Sum_p8 (high_1 : Int) (low_2 : Int) : Option (Int × Int) :=
  bif (!decide (high_1 = 0)) then (bif (!decide (high_1 = 18446744073709551615)) then (some ((0, 20))) else (bif (!(decide (high_1 = 0) == decide (0 ≤ IntKind.wrap .i64 low_2))) then (some ((0, 20))) else (money_Sum_p3 low_2))) else (bif (!(decide (high_1 = 0) == decide (0 ≤ IntKind.wrap .i64 low_2))) then (some ((0, 20))) else (money_Sum_p3 low_2))
def money_Sum_p27 (a0_l : List Int) (low_16 : Int) (t11_17 : Int) (kl_n_24 : Int → Int → Int → Option (Int × Int)) (high_26 : Int) : Option (Int × Int) :=
  kl_n_24 high_26 (((low_16 + (IntKind.wrap .u64 (a0_l.getD t11_17.toNat 0)) + 0) % 18446744073709551616)) (IntKind.wrap .i64 (t11_17 + 1))
def money_Sum_b24 (a0_l : List Int) (kl_n_24 : Int → Int → Int → Option (Int × Int)) (high_15 : Int) (low_16 : Int) (t11_17 : Int) : Option (Int × Int) :=
  bif decide (t11_17 < ((a0_l).length : Int)) then (guard ((0 : Int) ≤ t11_17 ∧ t11_17 < ((a0_l).length : Int)) (guard ((0 : Int) ≤ low_16 ∧ (0 : Int) ≤ IntKind.wrap .u64 (a0_l.getD t11_17.toNat 0) ∧ (0 : Int) ≤ 0 ∧ 0 ≤ (1 : Int)) (bif decide (a0_l.getD t11_17.toNat 0 < 0) then (money_Sum_p27 a0_l low_16 t11_17 kl_n_24 (IntKind.wrap .u64 (IntKind.wrap .u64 (high_15 + ((low_16 + (IntKind.wrap .u64 (a0_l.getD t11_17.toNat 0)) + 0) / 18446744073709551616)) - 1))) else (money_Sum_p27 a0_l low_16 t11_17 kl_n_24 (IntKind.wrap .u64 (high_15 + ((low_16 + (IntKind.wrap .u64 (a0_l.getD t11_17.toNat 0)) + 0) / 18446744073709551616))))))) else (money_Sum_p8 high_15 low_16)
def money_Sum_l24 (a0_l : List Int) : Nat → Int → Int → Int → Option (Int × Int)
  | 0, _, _, _ => none
  | n + 1, high_15, low_16, t11_17 => money_Sum_b24 a0_l (fun high_15 low_16 t11_17 => money_Sum_l24 a0_l n high_15 low_16 t11_17) high_15 low_16 t11_17
def money_Sum (F : Nat) (a0_l : List Int) : Option (Int × Int) :=
  money_Sum_l24 a0_l F 0 0 0
def settle_Owed_p10 (F : Nat) (o0_6 : List Int) : Option (Int × Int) :=
  (money_Sum F o0_6).bind fun c_7 => bif (!decide (c_7.2 = 0)) then (some ((0, c_7.2))) else (some ((c_7.1, 0)))
def settle_Owed_p48 (t38_27 : Int) (kl_n_45 : Int → (List Int) → Option (Int × Int)) (o2_47 : List Int) : Option (Int × Int) :=
  kl_n_45 (IntKind.wrap .i64 (t38_27 + 1)) o2_47
def settle_Owed_p59 (F : Nat) (a0_l : List SCDR) (t38_27 : Int) (o2_28 : List Int) (kl_n_45 : Int → (List Int) → Option (Int × Int)) (o4_55 : List SDispute) : Option (Int × Int) :=
  (dispute_Amount F (a0_l.getD t38_27.toNat dSCDR) o4_55).bind fun c_56 => guard (((o2_28).length + ([c_56]).length) * 8 ≤ 140737488355328 ∧ (o2_28).length + ([c_56]).length ≤ 140737488355328) (settle_Owed_p48 t38_27 kl_n_45 (o2_28 ++ ([c_56])))
def settle_Owed_b45 (F : Nat) (a0_l : List SCDR) (a2_creditor : ByteArray) (a3_debtor : ByteArray) (a4_currency : ByteArray) (a5_s : SSpan) (c_4 : List (ByteArray × SDispute)) (kl_n_45 : Int → (List Int) → Option (Int × Int)) (t38_27 : Int) (o2_28 : List Int) : Option (Int × Int) :=
  bif decide (t38_27 < ((a0_l).length : Int)) then (guard ((0 : Int) ≤ t38_27 ∧ t38_27 < ((a0_l).length : Int)) (bif (!(sEq ((a0_l.getD t38_27.toNat dSCDR).Operator) a2_creditor)) then (settle_Owed_p48 t38_27 kl_n_45 o2_28) else (bif (!(sEq ((a0_l.getD t38_27.toNat dSCDR).Provider) a3_debtor)) then (settle_Owed_p48 t38_27 kl_n_45 o2_28) else (bif (!(sEq ((a0_l.getD t38_27.toNat dSCDR).Currency) a4_currency)) then (settle_Owed_p48 t38_27 kl_n_45 o2_28) else (bif decide ((a0_l.getD t38_27.toNat dSCDR).End < a5_s.From) then (settle_Owed_p48 t38_27 kl_n_45 o2_28) else (bif decide (a5_s.To ≤ (a0_l.getD t38_27.toNat dSCDR).End) then (settle_Owed_p48 t38_27 kl_n_45 o2_28) else (bif (alook c_4 ((a0_l.getD t38_27.toNat dSCDR).ID)).isSome then (guard (((([] : List SDispute)).length + ([(alook c_4 ((a0_l.getD t38_27.toNat dSCDR).ID)).getD dSDispute]).length) * 64 ≤ 140737488355328 ∧ (([] : List SDispute)).length + ([(alook c_4 ((a0_l.getD t38_27.toNat dSCDR).ID)).getD dSDispute]).length ≤ 140737488355328) (settle_Owed_p59 F a0_l t38_27 o2_28 kl_n_45 ((([] : List SDispute)) ++ ([(alook c_4 ((a0_l.getD t38_27.toNat dSCDR).ID)).getD dSDispute])))) else (settle_Owed_p59 F a0_l t38_27 o2_28 kl_n_45 (([] : List SDispute)))))))))) else (settle_Owed_p10 F o2_28)
def settle_Owed_l45 (F : Nat) (a0_l : List SCDR) (a2_creditor : ByteArray) (a3_debtor : ByteArray) (a4_currency : ByteArray) (a5_s : SSpan) (c_4 : List (ByteArray × SDispute)) : Nat → Int → (List Int) → Option (Int × Int)
  | 0, _, _ => none
  | n + 1, t38_27, o2_28 => settle_Owed_b45 F a0_l a2_creditor a3_debtor a4_currency a5_s c_4 (fun t38_27 o2_28 => settle_Owed_l45 F a0_l a2_creditor a3_debtor a4_currency a5_s c_4 n t38_27 o2_28) t38_27 o2_28
def settle_Owed (F : Nat) (a0_l : List SCDR) (a1_ds : List SDispute) (a2_creditor : ByteArray) (a3_debtor : ByteArray) (a4_currency : ByteArray) (a5_s : SSpan) : Option (Int × Int) :=
  (settle_check F a0_l a1_ds a2_creditor a3_debtor a4_currency a5_s).bind fun c_1 => bif (!decide (c_1 = 0)) then (some ((0, c_1))) else ((settle_grants_own F a1_ds).bind fun c_4 => settle_Owed_l45 F a0_l a2_creditor a3_debtor a4_currency a5_s c_4 F 0 (([] : List Int)))
def settle_Balance_p12 (a4_currency : ByteArray) (a_7 : ByteArray) (b_8 : ByteArray) (x_9 : Int) (y_10 : Int) : Option (SBalance × Int) :=
  bif decide (IntKind.wrap .i64 (x_9 - y_10) < 0) then (some ((SBalance.mk ByteArray.empty ByteArray.empty ByteArray.empty 0, 20))) else (some ((SBalance.mk a_7 b_8 a4_currency (IntKind.wrap .i64 (x_9 - y_10)), 0)))
def settle_Balance (F : Nat) (a0_l : List SCDR) (a1_ds : List SDispute) (a2_a : ByteArray) (a3_b : ByteArray) (a4_currency : ByteArray) (a5_s : SSpan) : Option (SBalance × Int) :=
  (settle_Owed F a0_l a1_ds a2_a a3_b a4_currency a5_s).bind fun c_1 => bif (!decide (c_1.2 = 0)) then (some ((SBalance.mk ByteArray.empty ByteArray.empty ByteArray.empty 0, c_1.2))) else ((settle_Owed F a0_l a1_ds a3_b a2_a a4_currency a5_s).bind fun c_4 => bif (!decide (c_4.2 = 0)) then (some ((SBalance.mk ByteArray.empty ByteArray.empty ByteArray.empty 0, c_4.2))) else (bif decide (c_1.1 < c_4.1) then (settle_Balance_p12 a4_currency a3_b a2_a c_4.1 c_1.1) else (bif decide (c_1.1 = c_4.1) then (bif sLt a3_b a2_a then (settle_Balance_p12 a4_currency a3_b a2_a c_4.1 c_1.1) else (settle_Balance_p12 a4_currency a2_a a3_b c_1.1 c_4.1)) else (settle_Balance_p12 a4_currency a2_a a3_b c_1.1 c_4.1))))
def chargenetlaw49_SettleCredits_p17 (F : Nat) (o0_9 : List SCDR) : Option Bool :=
  (settle_Balance F o0_9 (([] : List SDispute)) (ByteArray.mk #[65]) (ByteArray.mk #[66]) (ByteArray.mk #[69, 85, 82]) (SSpan.mk 0 268435456)).bind fun c_11 => bif decide (c_11.2 = 0) then (bif decide (c_11.1.Amount = 0) then ((chargenetlaw49_exampleHolds F).bind fun c_15 => some c_15) else (some false)) else (some false)
def chargenetlaw49_SettleCredits_p47 (t23_30 : Int) (kl_n_44 : Int → (List SCDR) → Option Bool) (o0_46 : List SCDR) : Option Bool :=
  kl_n_44 (IntKind.wrap .i64 (t23_30 + 1)) o0_46
def chargenetlaw49_SettleCredits_b44 (F : Nat) (a0_c : SCase) (kl_n_44 : Int → (List SCDR) → Option Bool) (t23_30 : Int) (o0_31 : List SCDR) : Option Bool :=
  bif decide (t23_30 < ((a0_c.CDRs).length : Int)) then (guard ((0 : Int) ≤ t23_30 ∧ t23_30 < ((a0_c.CDRs).length : Int)) ((chargenetref46_Valid F (a0_c.CDRs.getD t23_30.toNat dSCDR)).bind fun c_49 => bif (!decide (c_49 = 0)) then (chargenetlaw49_SettleCredits_p47 t23_30 kl_n_44 o0_31) else (bif (a0_c.CDRs.getD t23_30.toNat dSCDR).Credit then (chargenetlaw49_SettleCredits_p47 t23_30 kl_n_44 o0_31) else ((chargenetref46_Credit F (a0_c.CDRs.getD t23_30.toNat dSCDR) (ByteArray.mk #[99, 114, 101, 100, 105, 116])).bind fun c_53 => bif decide (c_53.2 = 0) then (guard (((o0_31).length + ([a0_c.CDRs.getD t23_30.toNat dSCDR, SCDR.mk c_53.1.ID c_53.1.Operator c_53.1.Provider c_53.1.Session c_53.1.Version c_53.1.Start c_53.1.End c_53.1.Energy c_53.1.Tariff c_53.1.Currency c_53.1.Items c_53.1.Total c_53.1.Credit c_53.1.Ref]).length) * 184 ≤ 140737488355328 ∧ (o0_31).length + ([a0_c.CDRs.getD t23_30.toNat dSCDR, SCDR.mk c_53.1.ID c_53.1.Operator c_53.1.Provider c_53.1.Session c_53.1.Version c_53.1.Start c_53.1.End c_53.1.Energy c_53.1.Tariff c_53.1.Currency c_53.1.Items c_53.1.Total c_53.1.Credit c_53.1.Ref]).length ≤ 140737488355328) (chargenetlaw49_SettleCredits_p47 t23_30 kl_n_44 (o0_31 ++ ([a0_c.CDRs.getD t23_30.toNat dSCDR, SCDR.mk c_53.1.ID c_53.1.Operator c_53.1.Provider c_53.1.Session c_53.1.Version c_53.1.Start c_53.1.End c_53.1.Energy c_53.1.Tariff c_53.1.Currency c_53.1.Items c_53.1.Total c_53.1.Credit c_53.1.Ref])))) else (chargenetlaw49_SettleCredits_p47 t23_30 kl_n_44 o0_31))))) else (chargenetlaw49_SettleCredits_p17 F o0_31)
def chargenetlaw49_SettleCredits_l44 (F : Nat) (a0_c : SCase) : Nat → Int → (List SCDR) → Option Bool
  | 0, _, _ => none
  | n + 1, t23_30, o0_31 => chargenetlaw49_SettleCredits_b44 F a0_c (fun t23_30 o0_31 => chargenetlaw49_SettleCredits_l44 F a0_c n t23_30 o0_31) t23_30 o0_31
def chargenetlaw49_SettleCredits (F : Nat) (a0_c : SCase) : Option Bool :=
  (chargenetlaw49_Small F a0_c).bind fun c_1 => bif (!c_1) then ((chargenetlaw49_exampleHolds F).bind fun c_4 => some c_4) else (bif decide (10 < ((a0_c.CDRs).length : Int)) then ((chargenetlaw49_exampleHolds F).bind fun c_7 => some c_7) else (chargenetlaw49_SettleCredits_l44 F a0_c F 0 (([] : List SCDR))))
def chargenetref47_Valid (F : Nat) (a0_d : SDispute) : Option Int :=
  (chargenetref01_Valid F a0_d.CDR).bind fun c_1 => bif (!c_1) then (some 4) else ((chargenetref01_Valid F a0_d.By).bind fun c_4 => bif (!c_4) then (some 4) else (bif decide (a0_d.State < 1) then (some 2) else (bif decide (6 < a0_d.State) then (some 2) else (bif decide (a0_d.Opened < 0) then (some 2) else (bif decide (268435456 < a0_d.Opened) then (some 2) else (bif decide (a0_d.Claim < 1) then (some 2) else (bif decide (36028797018963968 < a0_d.Claim) then (some 2) else (bif decide (a0_d.Granted < 0) then (some 2) else (bif decide (a0_d.Claim < a0_d.Granted) then (some 2) else (bif (!((!decide (a0_d.Granted = 0)) == decide (a0_d.State = 4))) then (some 1) else (some 0)))))))))))
def chargenetref49_currency_p2  : Option Bool :=
  some true
def chargenetref49_currency_b14 (a0_s : ByteArray) (kl_n_14 : Int → Option Bool) (t9_8 : Int) : Option Bool :=
  bif decide (t9_8 < (a0_s.size : Int)) then (guard ((0 : Int) ≤ t9_8 ∧ t9_8 < (a0_s.size : Int)) (bif decide (sGet a0_s t9_8.toNat < 65) then (some false) else (guard ((0 : Int) ≤ t9_8 ∧ t9_8 < (a0_s.size : Int)) (bif decide (90 < sGet a0_s t9_8.toNat) then (some false) else (kl_n_14 (IntKind.wrap .i64 (t9_8 + 1))))))) else (chargenetref49_currency_p2)
def chargenetref49_currency_l14 (a0_s : ByteArray) : Nat → Int → Option Bool
  | 0, _ => none
  | n + 1, t9_8 => chargenetref49_currency_b14 a0_s (fun t9_8 => chargenetref49_currency_l14 a0_s n t9_8) t9_8
def chargenetref49_currency (F : Nat) (a0_s : ByteArray) : Option Bool :=
  bif (!decide ((a0_s.size : Int) = 3)) then (some false) else (chargenetref49_currency_l14 a0_s F 0)
def chargenetref47_Amount_p1 (a0_c : SCDR) : Option Int :=
  some a0_c.Total
def chargenetref47_Amount_p19 (i_9 : Int) (kl_n_17 : Int → Option Int) : Option Int :=
  kl_n_17 (IntKind.wrap .i64 (i_9 + 1))
def chargenetref47_Amount_b17 (a0_c : SCDR) (a1_l : List SDispute) (kl_n_17 : Int → Option Int) (i_9 : Int) : Option Int :=
  bif decide (i_9 < ((a1_l).length : Int)) then (guard ((0 : Int) ≤ i_9 ∧ i_9 < ((a1_l).length : Int)) (bif sEq ((a1_l.getD i_9.toNat dSDispute).CDR) a0_c.ID then (guard ((0 : Int) ≤ i_9 ∧ i_9 < ((a1_l).length : Int)) (bif decide ((a1_l.getD i_9.toNat dSDispute).State = 4) then (guard ((0 : Int) ≤ i_9 ∧ i_9 < ((a1_l).length : Int)) (some (IntKind.wrap .i64 (a0_c.Total - (a1_l.getD i_9.toNat dSDispute).Granted)))) else (chargenetref47_Amount_p19 i_9 kl_n_17))) else (chargenetref47_Amount_p19 i_9 kl_n_17))) else (chargenetref47_Amount_p1 a0_c)
def chargenetref47_Amount_l17 (a0_c : SCDR) (a1_l : List SDispute) : Nat → Int → Option Int
  | 0, _ => none
  | n + 1, i_9 => chargenetref47_Amount_b17 a0_c a1_l (fun i_9 => chargenetref47_Amount_l17 a0_c a1_l n i_9) i_9
def chargenetref47_Amount (F : Nat) (a0_c : SCDR) (a1_l : List SDispute) : Option Int :=
  chargenetref47_Amount_l17 a0_c a1_l F 0
def chargenetref49_Owed_p14 (high_10 : Int) (low_11 : Int) : Option (Int × Int) :=
  bif decide (IntKind.wrap .i64 (high_10 + (low_11 / 2 ^ min (32 : Int).toNat (IntKind.bits .i64))) < (-2147483648)) then (some ((0, 20))) else (bif decide (2147483648 ≤ IntKind.wrap .i64 (high_10 + (low_11 / 2 ^ min (32 : Int).toNat (IntKind.bits .i64)))) then (some ((0, 20))) else (some ((IntKind.wrap .i64 (IntKind.wrap .i64 (IntKind.wrap .i64 (high_10 + (low_11 / 2 ^ min (32 : Int).toNat (IntKind.bits .i64))) * 2 ^ min (32 : Int).toNat (IntKind.bits .i64)) + iAnd .i64 low_11 4294967295), 0))))
def chargenetref49_Owed_p46 (t84_29 : Int) (kl_n_42 : Int → Int → Int → Option (Int × Int)) (high_44 : Int) (low_45 : Int) : Option (Int × Int) :=
  kl_n_42 high_44 low_45 (IntKind.wrap .i64 (t84_29 + 1))
def chargenetref49_Owed_b42 (F : Nat) (a0_l : List SCDR) (a1_ds : List SDispute) (a2_creditor : ByteArray) (a3_debtor : ByteArray) (a4_cur : ByteArray) (a5_s : SSpan) (kl_n_42 : Int → Int → Int → Option (Int × Int)) (high_27 : Int) (low_28 : Int) (t84_29 : Int) : Option (Int × Int) :=
  bif decide (t84_29 < ((a0_l).length : Int)) then (guard ((0 : Int) ≤ t84_29 ∧ t84_29 < ((a0_l).length : Int)) (bif (!(sEq ((a0_l.getD t84_29.toNat dSCDR).Operator) a2_creditor)) then (chargenetref49_Owed_p46 t84_29 kl_n_42 high_27 low_28) else (bif (!(sEq ((a0_l.getD t84_29.toNat dSCDR).Provider) a3_debtor)) then (chargenetref49_Owed_p46 t84_29 kl_n_42 high_27 low_28) else (bif (!(sEq ((a0_l.getD t84_29.toNat dSCDR).Currency) a4_cur)) then (chargenetref49_Owed_p46 t84_29 kl_n_42 high_27 low_28) else (bif decide ((a0_l.getD t84_29.toNat dSCDR).End < a5_s.From) then (chargenetref49_Owed_p46 t84_29 kl_n_42 high_27 low_28) else (bif decide (a5_s.To ≤ (a0_l.getD t84_29.toNat dSCDR).End) then (chargenetref49_Owed_p46 t84_29 kl_n_42 high_27 low_28) else ((chargenetref47_Amount F (a0_l.getD t84_29.toNat dSCDR) a1_ds).bind fun c_53 => chargenetref49_Owed_p46 t84_29 kl_n_42 (IntKind.wrap .i64 (high_27 + (c_53 / 2 ^ min (32 : Int).toNat (IntKind.bits .i64)))) (IntKind.wrap .i64 (low_28 + iAnd .i64 c_53 4294967295))))))))) else (chargenetref49_Owed_p14 high_27 low_28)
def chargenetref49_Owed_l42 (F : Nat) (a0_l : List SCDR) (a1_ds : List SDispute) (a2_creditor : ByteArray) (a3_debtor : ByteArray) (a4_cur : ByteArray) (a5_s : SSpan) : Nat → Int → Int → Int → Option (Int × Int)
  | 0, _, _, _ => none
  | n + 1, high_27, low_28, t84_29 => chargenetref49_Owed_b42 F a0_l a1_ds a2_creditor a3_debtor a4_cur a5_s (fun high_27 low_28 t84_29 => chargenetref49_Owed_l42 F a0_l a1_ds a2_creditor a3_debtor a4_cur a5_s n high_27 low_28 t84_29) high_27 low_28 t84_29
def chargenetref49_Owed_p55 (F : Nat) (a0_l : List SCDR) (a1_ds : List SDispute) (a2_creditor : ByteArray) (a3_debtor : ByteArray) (a4_cur : ByteArray) (a5_s : SSpan) (t49_1 : Bool) : Option (Int × Int) :=
  bif t49_1 then (some ((0, 4))) else (bif sEq a2_creditor a3_debtor then (some ((0, 1))) else ((chargenetref49_currency F a4_cur).bind fun c_4 => bif (!c_4) then (some ((0, 21))) else (bif decide (a5_s.From < 0) then (some ((0, 2))) else (bif decide (a5_s.To < a5_s.From) then (some ((0, 2))) else (bif decide (268435456 < a5_s.To) then (some ((0, 2))) else (chargenetref49_Owed_l42 F a0_l a1_ds a2_creditor a3_debtor a4_cur a5_s F 0 0 0))))))
def chargenetref49_Owed_p61 (F : Nat) (a0_l : List SCDR) (a1_ds : List SDispute) (a2_creditor : ByteArray) (a3_debtor : ByteArray) (a4_cur : ByteArray) (a5_s : SSpan) : Option (Int × Int) :=
  (chargenetref01_Valid F a2_creditor).bind fun c_56 => bif (!c_56) then (chargenetref49_Owed_p55 F a0_l a1_ds a2_creditor a3_debtor a4_cur a5_s true) else ((chargenetref01_Valid F a3_debtor).bind fun c_59 => chargenetref49_Owed_p55 F a0_l a1_ds a2_creditor a3_debtor a4_cur a5_s ((!c_59)))
def chargenetref49_Owed_b73 (F : Nat) (a0_l : List SCDR) (a1_ds : List SDispute) (a2_creditor : ByteArray) (a3_debtor : ByteArray) (a4_cur : ByteArray) (a5_s : SSpan) (kl_n_73 : Int → Option (Int × Int)) (t39_67 : Int) : Option (Int × Int) :=
  bif decide (t39_67 < ((a1_ds).length : Int)) then (guard ((0 : Int) ≤ t39_67 ∧ t39_67 < ((a1_ds).length : Int)) ((chargenetref47_Valid F (a1_ds.getD t39_67.toNat dSDispute)).bind fun c_76 => bif (!decide (c_76 = 0)) then (some ((0, c_76))) else (kl_n_73 (IntKind.wrap .i64 (t39_67 + 1))))) else (chargenetref49_Owed_p61 F a0_l a1_ds a2_creditor a3_debtor a4_cur a5_s)
def chargenetref49_Owed_l73 (F : Nat) (a0_l : List SCDR) (a1_ds : List SDispute) (a2_creditor : ByteArray) (a3_debtor : ByteArray) (a4_cur : ByteArray) (a5_s : SSpan) : Nat → Int → Option (Int × Int)
  | 0, _ => none
  | n + 1, t39_67 => chargenetref49_Owed_b73 F a0_l a1_ds a2_creditor a3_debtor a4_cur a5_s (fun t39_67 => chargenetref49_Owed_l73 F a0_l a1_ds a2_creditor a3_debtor a4_cur a5_s n t39_67) t39_67
def chargenetref49_Owed_p79 (F : Nat) (a0_l : List SCDR) (a1_ds : List SDispute) (a2_creditor : ByteArray) (a3_debtor : ByteArray) (a4_cur : ByteArray) (a5_s : SSpan) : Option (Int × Int) :=
  chargenetref49_Owed_l73 F a0_l a1_ds a2_creditor a3_debtor a4_cur a5_s F 0
def chargenetref49_Owed_b91 (F : Nat) (a0_l : List SCDR) (a1_ds : List SDispute) (a2_creditor : ByteArray) (a3_debtor : ByteArray) (a4_cur : ByteArray) (a5_s : SSpan) (kl_n_91 : Int → Option (Int × Int)) (t27_85 : Int) : Option (Int × Int) :=
  bif decide (t27_85 < ((a0_l).length : Int)) then (guard ((0 : Int) ≤ t27_85 ∧ t27_85 < ((a0_l).length : Int)) ((chargenetref46_Valid F (a0_l.getD t27_85.toNat dSCDR)).bind fun c_94 => bif (!decide (c_94 = 0)) then (some ((0, c_94))) else (kl_n_91 (IntKind.wrap .i64 (t27_85 + 1))))) else (chargenetref49_Owed_p79 F a0_l a1_ds a2_creditor a3_debtor a4_cur a5_s)
def chargenetref49_Owed_l91 (F : Nat) (a0_l : List SCDR) (a1_ds : List SDispute) (a2_creditor : ByteArray) (a3_debtor : ByteArray) (a4_cur : ByteArray) (a5_s : SSpan) : Nat → Int → Option (Int × Int)
  | 0, _ => none
  | n + 1, t27_85 => chargenetref49_Owed_b91 F a0_l a1_ds a2_creditor a3_debtor a4_cur a5_s (fun t27_85 => chargenetref49_Owed_l91 F a0_l a1_ds a2_creditor a3_debtor a4_cur a5_s n t27_85) t27_85
def chargenetref49_Owed (F : Nat) (a0_l : List SCDR) (a1_ds : List SDispute) (a2_creditor : ByteArray) (a3_debtor : ByteArray) (a4_cur : ByteArray) (a5_s : SSpan) : Option (Int × Int) :=
  chargenetref49_Owed_l91 F a0_l a1_ds a2_creditor a3_debtor a4_cur a5_s F 0
def chargenetlaw49_SettleOwes (F : Nat) (a0_c : SCase) : Option Bool :=
  (chargenetlaw49_Small F a0_c).bind fun c_1 => bif (!c_1) then ((chargenetlaw49_exampleHolds F).bind fun c_4 => some c_4) else ((settle_Owed F a0_c.CDRs a0_c.Disputes a0_c.A a0_c.B a0_c.Currency (SSpan.mk a0_c.Span_From a0_c.Span_To)).bind fun c_6 => (chargenetref49_Owed F a0_c.CDRs a0_c.Disputes a0_c.A a0_c.B a0_c.Currency (SSpan.mk a0_c.Span_From a0_c.Span_To)).bind fun c_8 => bif decide (c_6.1 = c_8.1) then (some (decide (c_6.2 = c_8.2))) else (some false))
end Go.Proofs.Ytoncfkdgddfnlaa.M
