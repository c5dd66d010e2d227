/- Written by a program of ours (wip/eng/gen.py): the plain models of the functions. -/
import Derived.Test.YtoncfkdgddfnlaaEngZ
namespace Go.Proofs.Ytoncfkdgddfnlaa.M
open Go Go.Proofs.Ytoncfkdgddfnlaa.E
set_option linter.unusedVariables false
structure SBalance where
  Creditor : ByteArray
  Debtor : ByteArray
  Currency : ByteArray
  Amount : Int
def dSBalance : SBalance := ⟨ByteArray.empty, ByteArray.empty, ByteArray.empty, 0⟩
structure SPosition where
  Currency : ByteArray
  Party : ByteArray
  Amount : Int
def dSPosition : SPosition := ⟨ByteArray.empty, ByteArray.empty, 0⟩
def ident_value_p1  : Option Int :=
  some ((-1))
def ident_value_p8 (a0_r : Int) (t13_4 : Bool) : Option Int :=
  bif t13_4 then (some (IntKind.wrap .i64 (IntKind.wrap .i64 (IntKind.wrap .i32 (a0_r - 65)) + 10))) else (bif decide (97 ≤ a0_r) then (bif decide (a0_r ≤ 122) then (some (IntKind.wrap .i64 (IntKind.wrap .i64 (IntKind.wrap .i32 (a0_r - 97)) + 10))) else (ident_value_p1)) else (ident_value_p1))
def ident_value_p10 (a0_r : Int) (t3_2 : Bool) : Option Int :=
  bif t3_2 then (some (IntKind.wrap .i64 (IntKind.wrap .i32 (a0_r - 48)))) else (bif decide (65 ≤ a0_r) then (ident_value_p8 a0_r (decide (a0_r ≤ 90))) else (ident_value_p8 a0_r false))
def ident_value (F : Nat) (a0_r : Int) : Option Int :=
  bif decide (48 ≤ a0_r) then (ident_value_p10 a0_r (decide (a0_r ≤ 57))) else (ident_value_p10 a0_r false)
def ident_Valid_p3  : Option Bool :=
  some true
def ident_Valid_p36 (F : Nat) (a0_s : ByteArray) (pos_17 : Nat) (kl_n_29 : Nat → Option Bool) (t19_31 : Bool) : Option Bool :=
  bif t19_31 then (kl_n_29 (pos_17 + (Utf8.decode a0_s pos_17).2)) else ((ident_value F (((Utf8.decode a0_s pos_17).1 : Int))).bind fun c_33 => bif decide (c_33 < 0) then (some false) else (kl_n_29 (pos_17 + (Utf8.decode a0_s pos_17).2)))
def ident_Valid_b29 (F : Nat) (a0_s : ByteArray) (kl_n_29 : Nat → Option Bool) (pos_17 : Nat) : Option Bool :=
  bif decide (pos_17 < a0_s.size) then (bif decide (((Utf8.decode a0_s pos_17).1 : Int) = 45) then (ident_Valid_p36 F a0_s pos_17 kl_n_29 (decide (((Utf8.decode a0_s pos_17).1 : Int) = 45))) else (bif decide (((Utf8.decode a0_s pos_17).1 : Int) = 95) then (ident_Valid_p36 F a0_s pos_17 kl_n_29 (decide (((Utf8.decode a0_s pos_17).1 : Int) = 95))) else (bif decide (((Utf8.decode a0_s pos_17).1 : Int) = 46) then (ident_Valid_p36 F a0_s pos_17 kl_n_29 (decide (((Utf8.decode a0_s pos_17).1 : Int) = 46))) else (bif decide (((Utf8.decode a0_s pos_17).1 : Int) = 58) then (ident_Valid_p36 F a0_s pos_17 kl_n_29 (decide (((Utf8.decode a0_s pos_17).1 : Int) = 58))) else (ident_Valid_p36 F a0_s pos_17 kl_n_29 (decide (((Utf8.decode a0_s pos_17).1 : Int) = 42))))))) else (ident_Valid_p3)
def ident_Valid_l29 (F : Nat) (a0_s : ByteArray) : Nat → Nat → Option Bool
  | 0, _ => none
  | n + 1, pos_17 => ident_Valid_b29 F a0_s (fun pos_17 => ident_Valid_l29 F a0_s n pos_17) pos_17
def ident_Valid (F : Nat) (a0_s : ByteArray) : Option Bool :=
  bif decide ((a0_s.size : Int) < 1) then (some false) else (bif decide (36 < (a0_s.size : Int)) then (some false) else (ident_Valid_l29 F a0_s F 0))
def settle_parties (F : Nat) (a0_a : ByteArray) (a1_b : ByteArray) : Option Int :=
  (ident_Valid F a0_a).bind fun c_1 => bif (!c_1) then (some 4) else ((ident_Valid F a1_b).bind fun c_4 => bif (!c_4) then (some 4) else (bif sEq a0_a a1_b then (some 1) else (some 0)))
def settle_isCurrency_p2  : Option Bool :=
  some true
def settle_isCurrency_b14 (a0_s : ByteArray) (kl_n_14 : Int → Option Bool) (t9_8 : Int) : Option Bool :=
  bif decide (t9_8 < (a0_s.size : Int)) then (guard ((0 : Int) ≤ t9_8 ∧ t9_8 < (a0_s.size : Int)) (bif decide (sGet a0_s t9_8.toNat < 65) then (some false) else (guard ((0 : Int) ≤ t9_8 ∧ t9_8 < (a0_s.size : Int)) (bif decide (90 < sGet a0_s t9_8.toNat) then (some false) else (kl_n_14 (IntKind.wrap .i64 (t9_8 + 1))))))) else (settle_isCurrency_p2)
def settle_isCurrency_l14 (a0_s : ByteArray) : Nat → Int → Option Bool
  | 0, _ => none
  | n + 1, t9_8 => settle_isCurrency_b14 a0_s (fun t9_8 => settle_isCurrency_l14 a0_s n t9_8) t9_8
def settle_isCurrency (F : Nat) (a0_s : ByteArray) : Option Bool :=
  bif (!decide ((a0_s.size : Int) = 3)) then (some false) else (settle_isCurrency_l14 a0_s F 0)
def settle_checkBalance (F : Nat) (a0_b : SBalance) : Option Int :=
  (settle_parties F a0_b.Creditor a0_b.Debtor).bind fun c_1 => bif (!decide (c_1 = 0)) then (some c_1) else ((settle_isCurrency F a0_b.Currency).bind fun c_4 => bif (!c_4) then (some 21) else (bif decide (a0_b.Amount < 0) then (some 2) else (bif decide (1099511627776 < a0_b.Amount) then (some 2) else (some 0))))
def settle_net_p5 (o1_4 : List SBalance) : Option (List SBalance) :=
  some o1_4
def settle_net_p140 (a0_positions : List (ByteArray × Int)) (a1_currency : ByteArray) (o2_65 : List Int) (o3_66 : List SBalance) (kl_n_126 : (List Int) → (List SBalance) → Option (List SBalance)) (greatest_128 : Int) (least_129 : Int) : Option (List SBalance) :=
  guard ((0 : Int) ≤ greatest_128 ∧ greatest_128 < ((o2_65).length : Int)) (guard ((0 : Int) ≤ least_129 ∧ least_129 < ((o2_65).length : Int)) (bif decide ((if IntKind.wrap .i64 (0 - o2_65.getD least_129.toNat 0) < o2_65.getD greatest_128.toNat 0 then IntKind.wrap .i64 (0 - o2_65.getD least_129.toNat 0) else o2_65.getD greatest_128.toNat 0) ≤ 0) then (settle_net_p5 o3_66) else (guard ((0 : Int) ≤ greatest_128 ∧ greatest_128 < ((sortB (a0_positions.map Prod.fst)).length : Int)) (guard ((0 : Int) ≤ least_129 ∧ least_129 < ((sortB (a0_positions.map Prod.fst)).length : Int)) (guard (((o3_66).length + ([SBalance.mk ((sortB (a0_positions.map Prod.fst)).getD greatest_128.toNat ByteArray.empty) ((sortB (a0_positions.map Prod.fst)).getD least_129.toNat ByteArray.empty) a1_currency ((if IntKind.wrap .i64 (0 - o2_65.getD least_129.toNat 0) < o2_65.getD greatest_128.toNat 0 then IntKind.wrap .i64 (0 - o2_65.getD least_129.toNat 0) else o2_65.getD greatest_128.toNat 0))]).length) * 56 ≤ 140737488355328 ∧ (o3_66).length + ([SBalance.mk ((sortB (a0_positions.map Prod.fst)).getD greatest_128.toNat ByteArray.empty) ((sortB (a0_positions.map Prod.fst)).getD least_129.toNat ByteArray.empty) a1_currency ((if IntKind.wrap .i64 (0 - o2_65.getD least_129.toNat 0) < o2_65.getD greatest_128.toNat 0 then IntKind.wrap .i64 (0 - o2_65.getD least_129.toNat 0) else o2_65.getD greatest_128.toNat 0))]).length ≤ 140737488355328) (guard ((0 : Int) ≤ greatest_128 ∧ greatest_128 < ((o2_65).length : Int)) (guard ((0 : Int) ≤ greatest_128 ∧ greatest_128 < ((o2_65).length : Int)) (guard ((0 : Int) ≤ least_129 ∧ least_129 < ((o2_65.set greatest_128.toNat (IntKind.wrap .i64 (o2_65.getD greatest_128.toNat 0 - (if IntKind.wrap .i64 (0 - o2_65.getD least_129.toNat 0) < o2_65.getD greatest_128.toNat 0 then IntKind.wrap .i64 (0 - o2_65.getD least_129.toNat 0) else o2_65.getD greatest_128.toNat 0)))).length : Int)) (guard ((0 : Int) ≤ least_129 ∧ least_129 < ((o2_65.set greatest_128.toNat (IntKind.wrap .i64 (o2_65.getD greatest_128.toNat 0 - (if IntKind.wrap .i64 (0 - o2_65.getD least_129.toNat 0) < o2_65.getD greatest_128.toNat 0 then IntKind.wrap .i64 (0 - o2_65.getD least_129.toNat 0) else o2_65.getD greatest_128.toNat 0)))).length : Int)) (kl_n_126 ((o2_65.set greatest_128.toNat (IntKind.wrap .i64 (o2_65.getD greatest_128.toNat 0 - (if IntKind.wrap .i64 (0 - o2_65.getD least_129.toNat 0) < o2_65.getD greatest_128.toNat 0 then IntKind.wrap .i64 (0 - o2_65.getD least_129.toNat 0) else o2_65.getD greatest_128.toNat 0)))).set least_129.toNat (IntKind.wrap .i64 ((o2_65.set greatest_128.toNat (IntKind.wrap .i64 (o2_65.getD greatest_128.toNat 0 - (if IntKind.wrap .i64 (0 - o2_65.getD least_129.toNat 0) < o2_65.getD greatest_128.toNat 0 then IntKind.wrap .i64 (0 - o2_65.getD least_129.toNat 0) else o2_65.getD greatest_128.toNat 0)))).getD least_129.toNat 0 + (if IntKind.wrap .i64 (0 - o2_65.getD least_129.toNat 0) < o2_65.getD greatest_128.toNat 0 then IntKind.wrap .i64 (0 - o2_65.getD least_129.toNat 0) else o2_65.getD greatest_128.toNat 0)))) (o3_66 ++ ([SBalance.mk ((sortB (a0_positions.map Prod.fst)).getD greatest_128.toNat ByteArray.empty) ((sortB (a0_positions.map Prod.fst)).getD least_129.toNat ByteArray.empty) a1_currency ((if IntKind.wrap .i64 (0 - o2_65.getD least_129.toNat 0) < o2_65.getD greatest_128.toNat 0 then IntKind.wrap .i64 (0 - o2_65.getD least_129.toNat 0) else o2_65.getD greatest_128.toNat 0))]))))))))))))
def settle_net_p178 (t40_149 : Int) (kl_n_174 : Int → Int → Int → Option (List SBalance)) (greatest_177 : Int) (least_176 : Int) : Option (List SBalance) :=
  kl_n_174 greatest_177 least_176 (IntKind.wrap .i64 (t40_149 + 1))
def settle_net_p183 (o2_65 : List Int) (t40_149 : Int) (least_162 : Int) (kl_n_174 : Int → Int → Int → Option (List SBalance)) (greatest_180 : Int) : Option (List SBalance) :=
  guard ((0 : Int) ≤ least_162 ∧ least_162 < ((o2_65).length : Int)) (bif decide (o2_65.getD t40_149.toNat 0 < o2_65.getD least_162.toNat 0) then (settle_net_p178 t40_149 kl_n_174 greatest_180 t40_149) else (settle_net_p178 t40_149 kl_n_174 greatest_180 least_162))
def settle_net_b174 (a0_positions : List (ByteArray × Int)) (a1_currency : ByteArray) (o2_65 : List Int) (o3_66 : List SBalance) (kl_n_126 : (List Int) → (List SBalance) → Option (List SBalance)) (kl_n_174 : Int → Int → Int → Option (List SBalance)) (greatest_161 : Int) (least_162 : Int) (t40_149 : Int) : Option (List SBalance) :=
  bif decide (t40_149 < ((o2_65).length : Int)) then (guard ((0 : Int) ≤ t40_149 ∧ t40_149 < ((o2_65).length : Int)) (guard ((0 : Int) ≤ greatest_161 ∧ greatest_161 < ((o2_65).length : Int)) (bif decide (o2_65.getD greatest_161.toNat 0 < o2_65.getD t40_149.toNat 0) then (settle_net_p183 o2_65 t40_149 least_162 kl_n_174 t40_149) else (settle_net_p183 o2_65 t40_149 least_162 kl_n_174 greatest_161)))) else (settle_net_p140 a0_positions a1_currency o2_65 o3_66 kl_n_126 greatest_161 least_162)
def settle_net_l174 (a0_positions : List (ByteArray × Int)) (a1_currency : ByteArray) (o2_65 : List Int) (o3_66 : List SBalance) (kl_n_126 : (List Int) → (List SBalance) → Option (List SBalance)) : Nat → Int → Int → Int → Option (List SBalance)
  | 0, _, _, _ => none
  | n + 1, greatest_161, least_162, t40_149 => settle_net_b174 a0_positions a1_currency o2_65 o3_66 kl_n_126 (fun greatest_161 least_162 t40_149 => settle_net_l174 a0_positions a1_currency o2_65 o3_66 kl_n_126 n greatest_161 least_162 t40_149) greatest_161 least_162 t40_149
def settle_net_b126 (F : Nat) (a0_positions : List (ByteArray × Int)) (a1_currency : ByteArray) (kl_n_126 : (List Int) → (List SBalance) → Option (List SBalance)) (o2_65 : List Int) (o3_66 : List SBalance) : Option (List SBalance) :=
  bif decide (0 < ((o2_65).length : Int)) then (settle_net_l174 a0_positions a1_currency o2_65 o3_66 kl_n_126 F 0 0 0) else (settle_net_p5 o3_66)
def settle_net_l126 (F : Nat) (a0_positions : List (ByteArray × Int)) (a1_currency : ByteArray) : Nat → (List Int) → (List SBalance) → Option (List SBalance)
  | 0, _, _ => none
  | n + 1, o2_65, o3_66 => settle_net_b126 F a0_positions a1_currency (fun o2_65 o3_66 => settle_net_l126 F a0_positions a1_currency n o2_65 o3_66) o2_65 o3_66
def settle_net_p186 (F : Nat) (a0_positions : List (ByteArray × Int)) (a1_currency : ByteArray) (o2_3 : List Int) : Option (List SBalance) :=
  settle_net_l126 F a0_positions a1_currency F o2_3 (([] : List SBalance))
def settle_net_b195 (F : Nat) (a0_positions : List (ByteArray × Int)) (a1_currency : ByteArray) (kl_n_195 : Int → (List Int) → Option (List SBalance)) (t23_190 : Int) (o2_191 : List Int) : Option (List SBalance) :=
  bif decide (t23_190 < ((sortB (a0_positions.map Prod.fst)).length : Int)) then (guard ((0 : Int) ≤ t23_190 ∧ t23_190 < ((sortB (a0_positions.map Prod.fst)).length : Int)) (guard ((0 : Int) ≤ t23_190 ∧ t23_190 < ((o2_191).length : Int)) (kl_n_195 (IntKind.wrap .i64 (t23_190 + 1)) (o2_191.set t23_190.toNat ((alook a0_positions ((sortB (a0_positions.map Prod.fst)).getD t23_190.toNat ByteArray.empty)).getD 0))))) else (settle_net_p186 F a0_positions a1_currency o2_191)
def settle_net_l195 (F : Nat) (a0_positions : List (ByteArray × Int)) (a1_currency : ByteArray) : Nat → Int → (List Int) → Option (List SBalance)
  | 0, _, _ => none
  | n + 1, t23_190, o2_191 => settle_net_b195 F a0_positions a1_currency (fun t23_190 o2_191 => settle_net_l195 F a0_positions a1_currency n t23_190 o2_191) t23_190 o2_191
def settle_net (F : Nat) (a0_positions : List (ByteArray × Int)) (a1_currency : ByteArray) : Option (List SBalance) :=
  guard (keysOk (a0_positions.map Prod.fst) = true) (guard ((0 : Int) ≤ ((sortB (a0_positions.map Prod.fst)).length : Int) ∧ ((8 : Nat) : Int) * (((sortB (a0_positions.map Prod.fst)).length : Int)) ≤ 281474976710656 ∧ (((sortB (a0_positions.map Prod.fst)).length : Int) : Int) ≤ 281474976710656) (settle_net_l195 F a0_positions a1_currency F 0 (List.replicate (((sortB (a0_positions.map Prod.fst)).length : Int)).toNat (0 : Int))))
def settle_Net_p4 (o0_3 : List SBalance) : Option ((List SBalance) × Int) :=
  some ((o0_3, 0))
def settle_Net_b20 (F : Nat) (o0_2 : List (ByteArray × (List (ByteArray × Int)))) (kl_n_20 : Int → (List SBalance) → Option ((List SBalance) × Int)) (t69_12 : Int) (o1_13 : List SBalance) : Option ((List SBalance) × Int) :=
  bif decide (t69_12 < ((sortB (o0_2.map Prod.fst)).length : Int)) then (guard ((0 : Int) ≤ t69_12 ∧ t69_12 < ((sortB (o0_2.map Prod.fst)).length : Int)) (guard ((alook o0_2 ((sortB (o0_2.map Prod.fst)).getD t69_12.toNat ByteArray.empty)).isSome = true) ((settle_net F ((alook o0_2 ((sortB (o0_2.map Prod.fst)).getD t69_12.toNat ByteArray.empty)).getD []) ((sortB (o0_2.map Prod.fst)).getD t69_12.toNat ByteArray.empty)).bind fun c_24 => guard (((o1_13).length + (c_24).length) * 56 ≤ 140737488355328 ∧ (o1_13).length + (c_24).length ≤ 140737488355328) (kl_n_20 (IntKind.wrap .i64 (t69_12 + 1)) (o1_13 ++ c_24))))) else (settle_Net_p4 o1_13)
def settle_Net_l20 (F : Nat) (o0_2 : List (ByteArray × (List (ByteArray × Int)))) : Nat → Int → (List SBalance) → Option ((List SBalance) × Int)
  | 0, _, _ => none
  | n + 1, t69_12, o1_13 => settle_Net_b20 F o0_2 (fun t69_12 o1_13 => settle_Net_l20 F o0_2 n t69_12 o1_13) t69_12 o1_13
def settle_Net_p27 (F : Nat) (o0_2 : List (ByteArray × (List (ByteArray × Int)))) : Option ((List SBalance) × Int) :=
  guard (keysOk (o0_2.map Prod.fst) = true) (settle_Net_l20 F o0_2 F 0 (([] : List SBalance)))
def settle_Net_p50 (a0_l : List SBalance) (t31_35 : Int) (kl_n_44 : Int → (List (ByteArray × (List (ByteArray × Int)))) → Option ((List SBalance) × Int)) (o0_47 : List (ByteArray × (List (ByteArray × Int)))) : Option ((List SBalance) × Int) :=
  guard ((alook o0_47 ((a0_l.getD t31_35.toNat dSBalance).Currency)).isSome = true) (guard ((alook (aset o0_47 ((a0_l.getD t31_35.toNat dSBalance).Currency) (aset ((alook o0_47 ((a0_l.getD t31_35.toNat dSBalance).Currency)).getD []) ((a0_l.getD t31_35.toNat dSBalance).Creditor) (IntKind.wrap .i64 ((alook ((alook o0_47 ((a0_l.getD t31_35.toNat dSBalance).Currency)).getD []) ((a0_l.getD t31_35.toNat dSBalance).Creditor)).getD 0 + (a0_l.getD t31_35.toNat dSBalance).Amount)))) ((a0_l.getD t31_35.toNat dSBalance).Currency)).isSome = true) (kl_n_44 (IntKind.wrap .i64 (t31_35 + 1)) (aset (aset o0_47 ((a0_l.getD t31_35.toNat dSBalance).Currency) (aset ((alook o0_47 ((a0_l.getD t31_35.toNat dSBalance).Currency)).getD []) ((a0_l.getD t31_35.toNat dSBalance).Creditor) (IntKind.wrap .i64 ((alook ((alook o0_47 ((a0_l.getD t31_35.toNat dSBalance).Currency)).getD []) ((a0_l.getD t31_35.toNat dSBalance).Creditor)).getD 0 + (a0_l.getD t31_35.toNat dSBalance).Amount)))) ((a0_l.getD t31_35.toNat dSBalance).Currency) (aset ((alook (aset o0_47 ((a0_l.getD t31_35.toNat dSBalance).Currency) (aset ((alook o0_47 ((a0_l.getD t31_35.toNat dSBalance).Currency)).getD []) ((a0_l.getD t31_35.toNat dSBalance).Creditor) (IntKind.wrap .i64 ((alook ((alook o0_47 ((a0_l.getD t31_35.toNat dSBalance).Currency)).getD []) ((a0_l.getD t31_35.toNat dSBalance).Creditor)).getD 0 + (a0_l.getD t31_35.toNat dSBalance).Amount)))) ((a0_l.getD t31_35.toNat dSBalance).Currency)).getD []) ((a0_l.getD t31_35.toNat dSBalance).Debtor) (IntKind.wrap .i64 ((alook ((alook (aset o0_47 ((a0_l.getD t31_35.toNat dSBalance).Currency) (aset ((alook o0_47 ((a0_l.getD t31_35.toNat dSBalance).Currency)).getD []) ((a0_l.getD t31_35.toNat dSBalance).Creditor) (IntKind.wrap .i64 ((alook ((alook o0_47 ((a0_l.getD t31_35.toNat dSBalance).Currency)).getD []) ((a0_l.getD t31_35.toNat dSBalance).Creditor)).getD 0 + (a0_l.getD t31_35.toNat dSBalance).Amount)))) ((a0_l.getD t31_35.toNat dSBalance).Currency)).getD []) ((a0_l.getD t31_35.toNat dSBalance).Debtor)).getD 0 - (a0_l.getD t31_35.toNat dSBalance).Amount))))))
def settle_Net_b44 (F : Nat) (a0_l : List SBalance) (kl_n_44 : Int → (List (ByteArray × (List (ByteArray × Int)))) → Option ((List SBalance) × Int)) (t31_35 : Int) (o0_36 : List (ByteArray × (List (ByteArray × Int)))) : Option ((List SBalance) × Int) :=
  bif decide (t31_35 < ((a0_l).length : Int)) then (guard ((0 : Int) ≤ t31_35 ∧ t31_35 < ((a0_l).length : Int)) (bif (alook o0_36 ((a0_l.getD t31_35.toNat dSBalance).Currency)).isSome then (settle_Net_p50 a0_l t31_35 kl_n_44 o0_36) else (settle_Net_p50 a0_l t31_35 kl_n_44 (aset (o0_36 ++ [((a0_l.getD t31_35.toNat dSBalance).Currency, [])]) ((a0_l.getD t31_35.toNat dSBalance).Currency) (([] : List (ByteArray × Int))))))) else (settle_Net_p27 F o0_36)
def settle_Net_l44 (F : Nat) (a0_l : List SBalance) : Nat → Int → (List (ByteArray × (List (ByteArray × Int)))) → Option ((List SBalance) × Int)
  | 0, _, _ => none
  | n + 1, t31_35, o0_36 => settle_Net_b44 F a0_l (fun t31_35 o0_36 => settle_Net_l44 F a0_l n t31_35 o0_36) t31_35 o0_36
def settle_Net_p52 (F : Nat) (a0_l : List SBalance) : Option ((List SBalance) × Int) :=
  settle_Net_l44 F a0_l F 0 (([] : List (ByteArray × (List (ByteArray × Int)))))
def settle_Net_b64 (F : Nat) (a0_l : List SBalance) (kl_n_64 : Int → Option ((List SBalance) × Int)) (t18_58 : Int) : Option ((List SBalance) × Int) :=
  bif decide (t18_58 < ((a0_l).length : Int)) then (guard ((0 : Int) ≤ t18_58 ∧ t18_58 < ((a0_l).length : Int)) ((settle_checkBalance F (a0_l.getD t18_58.toNat dSBalance)).bind fun c_67 => bif (!decide (c_67 = 0)) then (some (([], c_67))) else (kl_n_64 (IntKind.wrap .i64 (t18_58 + 1))))) else (settle_Net_p52 F a0_l)
def settle_Net_l64 (F : Nat) (a0_l : List SBalance) : Nat → Int → Option ((List SBalance) × Int)
  | 0, _ => none
  | n + 1, t18_58 => settle_Net_b64 F a0_l (fun t18_58 => settle_Net_l64 F a0_l n t18_58) t18_58
def settle_Net (F : Nat) (a0_l : List SBalance) : Option ((List SBalance) × Int) :=
  bif decide (1024 < ((a0_l).length : Int)) then (some (([], 3))) else (settle_Net_l64 F a0_l F 0)
def chargenetlaw49_exampleHolds (F : Nat)  : Option Bool :=
  (settle_Net F ([SBalance.mk (ByteArray.mk #[65]) (ByteArray.mk #[66]) (ByteArray.mk #[69, 85, 82]) 5, SBalance.mk (ByteArray.mk #[66]) (ByteArray.mk #[67]) (ByteArray.mk #[69, 85, 82]) 5])).bind fun c_1 => (settle_Net F ([SBalance.mk (ByteArray.mk #[65]) (ByteArray.mk #[66]) (ByteArray.mk #[69, 85, 82]) 5, SBalance.mk (ByteArray.mk #[66]) (ByteArray.mk #[65]) (ByteArray.mk #[69, 85, 82]) 5])).bind fun c_3 => bif decide (c_1.2 = 0) then (bif decide (c_3.2 = 0) then (bif decide (((c_3.1).length : Int) = 0) then (bif decide (((c_1.1).length : Int) = 1) then (guard ((0 : Int) ≤ 0 ∧ 0 < ((c_1.1).length : Int)) (some ((xor false (sEq ((c_1.1.getD (0 : Int).toNat dSBalance).Creditor) (ByteArray.mk #[65]) && (sEq ((c_1.1.getD (0 : Int).toNat dSBalance).Debtor) (ByteArray.mk #[67]) && (sEq ((c_1.1.getD (0 : Int).toNat dSBalance).Currency) (ByteArray.mk #[69, 85, 82]) && (decide ((c_1.1.getD (0 : Int).toNat dSBalance).Amount = 5) && true)))))))) else (some false)) else (some false)) else (some false)) else (some false)
def chargenetref49_add_p2 (a0_l : List SPosition) (a1_cur : ByteArray) (a2_party : ByteArray) (a3_n : Int) : Option (List SPosition) :=
  guard (((a0_l).length + ([SPosition.mk a1_cur a2_party a3_n]).length) * 40 ≤ 140737488355328 ∧ (a0_l).length + ([SPosition.mk a1_cur a2_party a3_n]).length ≤ 140737488355328) (some (a0_l ++ ([SPosition.mk a1_cur a2_party a3_n])))
def chargenetref49_add_p20 (t13_10 : Int) (kl_n_18 : Int → Option (List SPosition)) : Option (List SPosition) :=
  kl_n_18 (IntKind.wrap .i64 (t13_10 + 1))
def chargenetref49_add_b18 (a0_l : List SPosition) (a1_cur : ByteArray) (a2_party : ByteArray) (a3_n : Int) (kl_n_18 : Int → Option (List SPosition)) (t13_10 : Int) : Option (List SPosition) :=
  bif decide (t13_10 < ((a0_l).length : Int)) then (guard ((0 : Int) ≤ t13_10 ∧ t13_10 < ((a0_l).length : Int)) (bif sEq ((a0_l.getD t13_10.toNat dSPosition).Currency) a1_cur then (bif sEq ((a0_l.getD t13_10.toNat dSPosition).Party) a2_party then (guard ((0 : Int) ≤ t13_10 ∧ t13_10 < ((a0_l).length : Int)) (guard ((0 : Int) ≤ t13_10 ∧ t13_10 < ((a0_l).length : Int)) (some (a0_l.set t13_10.toNat (SPosition.mk ((a0_l.getD t13_10.toNat dSPosition).Currency) ((a0_l.getD t13_10.toNat dSPosition).Party) (IntKind.wrap .i64 ((a0_l.getD t13_10.toNat dSPosition).Amount + a3_n))))))) else (chargenetref49_add_p20 t13_10 kl_n_18)) else (chargenetref49_add_p20 t13_10 kl_n_18))) else (chargenetref49_add_p2 a0_l a1_cur a2_party a3_n)
def chargenetref49_add_l18 (a0_l : List SPosition) (a1_cur : ByteArray) (a2_party : ByteArray) (a3_n : Int) : Nat → Int → Option (List SPosition)
  | 0, _ => none
  | n + 1, t13_10 => chargenetref49_add_b18 a0_l a1_cur a2_party a3_n (fun t13_10 => chargenetref49_add_l18 a0_l a1_cur a2_party a3_n n t13_10) t13_10
def chargenetref49_add (F : Nat) (a0_l : List SPosition) (a1_cur : ByteArray) (a2_party : ByteArray) (a3_n : Int) : Option (List SPosition) :=
  chargenetref49_add_l18 a0_l a1_cur a2_party a3_n F 0
def chargenetref49_Positions_p3 (o0_2 : List SPosition) : Option (List SPosition) :=
  some o0_2
def chargenetref49_Positions_p111 (t34_55 : Int) (kl_n_108 : Int → (List SPosition) → Option (List SPosition)) (o0_110 : List SPosition) : Option (List SPosition) :=
  kl_n_108 (IntKind.wrap .i64 (t34_55 + 1)) o0_110
def chargenetref49_Positions_p149 (j_127 : Int) (o0_128 : List SPosition) (kl_n_144 : Int → (List SPosition) → Option (List SPosition)) : Option (List SPosition) :=
  guard ((0 : Int) ≤ j_127 ∧ j_127 < ((o0_128).length : Int)) (guard ((0 : Int) ≤ IntKind.wrap .i64 (j_127 - 1) ∧ IntKind.wrap .i64 (j_127 - 1) < ((o0_128).length : Int)) (guard ((0 : Int) ≤ IntKind.wrap .i64 (j_127 - 1) ∧ IntKind.wrap .i64 (j_127 - 1) < ((o0_128).length : Int)) (guard ((0 : Int) ≤ j_127 ∧ j_127 < ((o0_128.set ((IntKind.wrap .i64 (j_127 - 1)).toNat) (o0_128.getD j_127.toNat dSPosition)).length : Int)) (kl_n_144 (IntKind.wrap .i64 (j_127 - 1)) ((o0_128.set ((IntKind.wrap .i64 (j_127 - 1)).toNat) (o0_128.getD j_127.toNat dSPosition)).set j_127.toNat (o0_128.getD ((IntKind.wrap .i64 (j_127 - 1)).toNat) dSPosition))))))
def chargenetref49_Positions_b144 (t34_55 : Int) (kl_n_108 : Int → (List SPosition) → Option (List SPosition)) (kl_n_144 : Int → (List SPosition) → Option (List SPosition)) (j_127 : Int) (o0_128 : List SPosition) : Option (List SPosition) :=
  bif decide (0 < j_127) then (guard ((0 : Int) ≤ IntKind.wrap .i64 (j_127 - 1) ∧ IntKind.wrap .i64 (j_127 - 1) < ((o0_128).length : Int)) (guard ((0 : Int) ≤ j_127 ∧ j_127 < ((o0_128).length : Int)) (bif (!(sLt ((o0_128.getD ((IntKind.wrap .i64 (j_127 - 1)).toNat) dSPosition).Currency) ((o0_128.getD j_127.toNat dSPosition).Currency) || sEq ((o0_128.getD ((IntKind.wrap .i64 (j_127 - 1)).toNat) dSPosition).Currency) ((o0_128.getD j_127.toNat dSPosition).Currency))) then (chargenetref49_Positions_p149 j_127 o0_128 kl_n_144) else (guard ((0 : Int) ≤ IntKind.wrap .i64 (j_127 - 1) ∧ IntKind.wrap .i64 (j_127 - 1) < ((o0_128).length : Int)) (guard ((0 : Int) ≤ j_127 ∧ j_127 < ((o0_128).length : Int)) (bif sEq ((o0_128.getD ((IntKind.wrap .i64 (j_127 - 1)).toNat) dSPosition).Currency) ((o0_128.getD j_127.toNat dSPosition).Currency) then (guard ((0 : Int) ≤ IntKind.wrap .i64 (j_127 - 1) ∧ IntKind.wrap .i64 (j_127 - 1) < ((o0_128).length : Int)) (guard ((0 : Int) ≤ j_127 ∧ j_127 < ((o0_128).length : Int)) (bif (!(sLt ((o0_128.getD ((IntKind.wrap .i64 (j_127 - 1)).toNat) dSPosition).Party) ((o0_128.getD j_127.toNat dSPosition).Party) || sEq ((o0_128.getD ((IntKind.wrap .i64 (j_127 - 1)).toNat) dSPosition).Party) ((o0_128.getD j_127.toNat dSPosition).Party))) then (chargenetref49_Positions_p149 j_127 o0_128 kl_n_144) else (chargenetref49_Positions_p111 t34_55 kl_n_108 o0_128)))) else (chargenetref49_Positions_p111 t34_55 kl_n_108 o0_128))))))) else (chargenetref49_Positions_p111 t34_55 kl_n_108 o0_128)
def chargenetref49_Positions_l144 (t34_55 : Int) (kl_n_108 : Int → (List SPosition) → Option (List SPosition)) : Nat → Int → (List SPosition) → Option (List SPosition)
  | 0, _, _ => none
  | n + 1, j_127, o0_128 => chargenetref49_Positions_b144 t34_55 kl_n_108 (fun j_127 o0_128 => chargenetref49_Positions_l144 t34_55 kl_n_108 n j_127 o0_128) j_127 o0_128
def chargenetref49_Positions_b108 (F : Nat) (o0_1 : List SPosition) (kl_n_108 : Int → (List SPosition) → Option (List SPosition)) (t34_55 : Int) (o0_56 : List SPosition) : Option (List SPosition) :=
  bif decide (t34_55 < ((o0_1).length : Int)) then (chargenetref49_Positions_l144 t34_55 kl_n_108 F t34_55 o0_56) else (chargenetref49_Positions_p3 o0_56)
def chargenetref49_Positions_l108 (F : Nat) (o0_1 : List SPosition) : Nat → Int → (List SPosition) → Option (List SPosition)
  | 0, _, _ => none
  | n + 1, t34_55, o0_56 => chargenetref49_Positions_b108 F o0_1 (fun t34_55 o0_56 => chargenetref49_Positions_l108 F o0_1 n t34_55 o0_56) t34_55 o0_56
def chargenetref49_Positions_p160 (F : Nat) (o0_1 : List SPosition) : Option (List SPosition) :=
  chargenetref49_Positions_l108 F o0_1 F 0 o0_1
def chargenetref49_Positions_b175 (F : Nat) (a0_l : List SBalance) (kl_n_175 : Int → (List SPosition) → Option (List SPosition)) (t10_167 : Int) (o0_168 : List SPosition) : Option (List SPosition) :=
  bif decide (t10_167 < ((a0_l).length : Int)) then (guard ((0 : Int) ≤ t10_167 ∧ t10_167 < ((a0_l).length : Int)) ((chargenetref49_add F o0_168 ((a0_l.getD t10_167.toNat dSBalance).Currency) ((a0_l.getD t10_167.toNat dSBalance).Creditor) ((a0_l.getD t10_167.toNat dSBalance).Amount)).bind fun c_178 => (chargenetref49_add F c_178 ((a0_l.getD t10_167.toNat dSBalance).Currency) ((a0_l.getD t10_167.toNat dSBalance).Debtor) (IntKind.wrap .i64 (0 - (a0_l.getD t10_167.toNat dSBalance).Amount))).bind fun c_180 => kl_n_175 (IntKind.wrap .i64 (t10_167 + 1)) c_180)) else (chargenetref49_Positions_p160 F o0_168)
def chargenetref49_Positions_l175 (F : Nat) (a0_l : List SBalance) : Nat → Int → (List SPosition) → Option (List SPosition)
  | 0, _, _ => none
  | n + 1, t10_167, o0_168 => chargenetref49_Positions_b175 F a0_l (fun t10_167 o0_168 => chargenetref49_Positions_l175 F a0_l n t10_167 o0_168) t10_167 o0_168
def chargenetref49_Positions (F : Nat) (a0_l : List SBalance) : Option (List SPosition) :=
  chargenetref49_Positions_l175 F a0_l F 0 (([] : List SPosition))
def chargenetlaw49_position_p1  : Option Int :=
  some 0
def chargenetlaw49_position_p15 (t11_7 : Int) (kl_n_13 : Int → Option Int) : Option Int :=
  kl_n_13 (IntKind.wrap .i64 (t11_7 + 1))
def chargenetlaw49_position_b13 (a0_l : List SPosition) (a1_currency : ByteArray) (a2_party : ByteArray) (kl_n_13 : Int → Option Int) (t11_7 : Int) : Option Int :=
  bif decide (t11_7 < ((a0_l).length : Int)) then (guard ((0 : Int) ≤ t11_7 ∧ t11_7 < ((a0_l).length : Int)) (bif sEq ((a0_l.getD t11_7.toNat dSPosition).Currency) a1_currency then (bif sEq ((a0_l.getD t11_7.toNat dSPosition).Party) a2_party then (some ((a0_l.getD t11_7.toNat dSPosition).Amount)) else (chargenetlaw49_position_p15 t11_7 kl_n_13)) else (chargenetlaw49_position_p15 t11_7 kl_n_13))) else (chargenetlaw49_position_p1)
def chargenetlaw49_position_l13 (a0_l : List SPosition) (a1_currency : ByteArray) (a2_party : ByteArray) : Nat → Int → Option Int
  | 0, _ => none
  | n + 1, t11_7 => chargenetlaw49_position_b13 a0_l a1_currency a2_party (fun t11_7 => chargenetlaw49_position_l13 a0_l a1_currency a2_party n t11_7) t11_7
def chargenetlaw49_position (F : Nat) (a0_l : List SPosition) (a1_currency : ByteArray) (a2_party : ByteArray) : Option Int :=
  chargenetlaw49_position_l13 a0_l a1_currency a2_party F 0
def chargenetlaw49_same_p2  : Option Bool :=
  some true
def chargenetlaw49_same_b12 (a0_a : List SBalance) (a1_b : List SBalance) (kl_n_12 : Int → Option Bool) (t13_7 : Int) : Option Bool :=
  bif decide (t13_7 < ((a0_a).length : Int)) then (guard ((0 : Int) ≤ t13_7 ∧ t13_7 < ((a0_a).length : Int)) (guard ((0 : Int) ≤ t13_7 ∧ t13_7 < ((a1_b).length : Int)) (bif (xor true (sEq ((a0_a.getD t13_7.toNat dSBalance).Creditor) ((a1_b.getD t13_7.toNat dSBalance).Creditor) && (sEq ((a0_a.getD t13_7.toNat dSBalance).Debtor) ((a1_b.getD t13_7.toNat dSBalance).Debtor) && (sEq ((a0_a.getD t13_7.toNat dSBalance).Currency) ((a1_b.getD t13_7.toNat dSBalance).Currency) && (decide ((a0_a.getD t13_7.toNat dSBalance).Amount = (a1_b.getD t13_7.toNat dSBalance).Amount) && true))))) then (some false) else (kl_n_12 (IntKind.wrap .i64 (t13_7 + 1)))))) else (chargenetlaw49_same_p2)
def chargenetlaw49_same_l12 (a0_a : List SBalance) (a1_b : List SBalance) : Nat → Int → Option Bool
  | 0, _ => none
  | n + 1, t13_7 => chargenetlaw49_same_b12 a0_a a1_b (fun t13_7 => chargenetlaw49_same_l12 a0_a a1_b n t13_7) t13_7
def chargenetlaw49_same (F : Nat) (a0_a : List SBalance) (a1_b : List SBalance) : Option Bool :=
  bif (!decide (((a0_a).length : Int) = ((a1_b).length : Int))) then (some false) else (chargenetlaw49_same_l12 a0_a a1_b F 0)
def chargenetlaw49_SettlePositions_p17 (F : Nat) (c_4 : (List SBalance) × Int) : Option Bool :=
  (settle_Net F c_4.1).bind fun c_12 => bif decide (c_12.2 = 0) then ((chargenetlaw49_same F c_12.1 c_4.1).bind fun c_15 => some c_15) else (some false)
def chargenetlaw49_SettlePositions_b25 (F : Nat) (c_4 : (List SBalance) × Int) (kl_n_25 : Int → Option Bool) (t95_21 : Int) : Option Bool :=
  bif decide (t95_21 < ((c_4.1).length : Int)) then (guard ((0 : Int) ≤ t95_21 ∧ t95_21 < ((c_4.1).length : Int)) (bif decide (1099511627776 < (c_4.1.getD t95_21.toNat dSBalance).Amount) then (some true) else (kl_n_25 (IntKind.wrap .i64 (t95_21 + 1))))) else (chargenetlaw49_SettlePositions_p17 F c_4)
def chargenetlaw49_SettlePositions_l25 (F : Nat) (c_4 : (List SBalance) × Int) : Nat → Int → Option Bool
  | 0, _ => none
  | n + 1, t95_21 => chargenetlaw49_SettlePositions_b25 F c_4 (fun t95_21 => chargenetlaw49_SettlePositions_l25 F c_4 n t95_21) t95_21
def chargenetlaw49_SettlePositions_p29 (F : Nat) (c_4 : (List SBalance) × Int) : Option Bool :=
  chargenetlaw49_SettlePositions_l25 F c_4 F 0
def chargenetlaw49_SettlePositions_p135 (t44_81 : Int) (t45_82 : Int) (kl_n_133 : Int → Int → Option Bool) : Option Bool :=
  kl_n_133 t44_81 (IntKind.wrap .i64 (t45_82 + 1))
def chargenetlaw49_SettlePositions_p143 (t44_81 : Int) (t45_82 : Int) (kl_n_133 : Int → Int → Option Bool) (n_140 : Int) (m_141 : Int) : Option Bool :=
  bif decide (n_140 ≤ m_141) then (some false) else (chargenetlaw49_SettlePositions_p135 t44_81 t45_82 kl_n_133)
def chargenetlaw49_SettlePositions_p163 (c_4 : (List SBalance) × Int) (t74_151 : Int) (kl_n_158 : Int → Int → Option Bool) (m_161 : Int) : Option Bool :=
  bif decide ((c_4.1.getD t74_151.toNat dSBalance).Amount ≤ 0) then (some false) else (kl_n_158 m_161 (IntKind.wrap .i64 (t74_151 + 1)))
def chargenetlaw49_SettlePositions_b158 (c_4 : (List SBalance) × Int) (c_8 : List SPosition) (t44_81 : Int) (t45_82 : Int) (kl_n_133 : Int → Int → Option Bool) (n_140 : Int) (kl_n_158 : Int → Int → Option Bool) (m_150 : Int) (t74_151 : Int) : Option Bool :=
  bif decide (t74_151 < ((c_4.1).length : Int)) then (guard ((0 : Int) ≤ t74_151 ∧ t74_151 < ((c_4.1).length : Int)) (bif sEq ((c_4.1.getD t74_151.toNat dSBalance).Currency) ((c_8.getD t45_82.toNat dSPosition).Currency) then (chargenetlaw49_SettlePositions_p163 c_4 t74_151 kl_n_158 (IntKind.wrap .i64 (m_150 + 1))) else (chargenetlaw49_SettlePositions_p163 c_4 t74_151 kl_n_158 m_150))) else (chargenetlaw49_SettlePositions_p143 t44_81 t45_82 kl_n_133 n_140 m_150)
def chargenetlaw49_SettlePositions_l158 (c_4 : (List SBalance) × Int) (c_8 : List SPosition) (t44_81 : Int) (t45_82 : Int) (kl_n_133 : Int → Int → Option Bool) (n_140 : Int) : Nat → Int → Int → Option Bool
  | 0, _, _ => none
  | n + 1, m_150, t74_151 => chargenetlaw49_SettlePositions_b158 c_4 c_8 t44_81 t45_82 kl_n_133 n_140 (fun m_150 t74_151 => chargenetlaw49_SettlePositions_l158 c_4 c_8 t44_81 t45_82 kl_n_133 n_140 n m_150 t74_151) m_150 t74_151
def chargenetlaw49_SettlePositions_p165 (F : Nat) (c_4 : (List SBalance) × Int) (c_8 : List SPosition) (t44_81 : Int) (t45_82 : Int) (kl_n_133 : Int → Int → Option Bool) (n_140 : Int) : Option Bool :=
  chargenetlaw49_SettlePositions_l158 c_4 c_8 t44_81 t45_82 kl_n_133 n_140 F 0 0
def chargenetlaw49_SettlePositions_p181 (t60_172 : Int) (kl_n_178 : Int → Int → Option Bool) (n_180 : Int) : Option Bool :=
  kl_n_178 n_180 (IntKind.wrap .i64 (t60_172 + 1))
def chargenetlaw49_SettlePositions_b178 (F : Nat) (c_4 : (List SBalance) × Int) (c_8 : List SPosition) (t44_81 : Int) (t45_82 : Int) (kl_n_133 : Int → Int → Option Bool) (kl_n_178 : Int → Int → Option Bool) (n_171 : Int) (t60_172 : Int) : Option Bool :=
  bif decide (t60_172 < ((c_8).length : Int)) then (guard ((0 : Int) ≤ t60_172 ∧ t60_172 < ((c_8).length : Int)) (bif sEq ((c_8.getD t60_172.toNat dSPosition).Currency) ((c_8.getD t45_82.toNat dSPosition).Currency) then (chargenetlaw49_SettlePositions_p181 t60_172 kl_n_178 (IntKind.wrap .i64 (n_171 + 1))) else (chargenetlaw49_SettlePositions_p181 t60_172 kl_n_178 n_171))) else (chargenetlaw49_SettlePositions_p165 F c_4 c_8 t44_81 t45_82 kl_n_133 n_171)
def chargenetlaw49_SettlePositions_l178 (F : Nat) (c_4 : (List SBalance) × Int) (c_8 : List SPosition) (t44_81 : Int) (t45_82 : Int) (kl_n_133 : Int → Int → Option Bool) : Nat → Int → Int → Option Bool
  | 0, _, _ => none
  | n + 1, n_171, t60_172 => chargenetlaw49_SettlePositions_b178 F c_4 c_8 t44_81 t45_82 kl_n_133 (fun n_171 t60_172 => chargenetlaw49_SettlePositions_l178 F c_4 c_8 t44_81 t45_82 kl_n_133 n n_171 t60_172) n_171 t60_172
def chargenetlaw49_SettlePositions_b133 (F : Nat) (c_4 : (List SBalance) × Int) (c_8 : List SPosition) (c_10 : List SPosition) (kl_n_133 : Int → Int → Option Bool) (t44_81 : Int) (t45_82 : Int) : Option Bool :=
  bif decide (t45_82 < t44_81) then (guard ((0 : Int) ≤ t45_82 ∧ t45_82 < ((c_8).length : Int)) ((chargenetlaw49_position F c_10 ((c_8.getD t45_82.toNat dSPosition).Currency) ((c_8.getD t45_82.toNat dSPosition).Party)).bind fun c_137 => bif (!decide (c_137 = (c_8.getD t45_82.toNat dSPosition).Amount)) then (some false) else (chargenetlaw49_SettlePositions_l178 F c_4 c_8 t44_81 t45_82 kl_n_133 F 0 0))) else (chargenetlaw49_SettlePositions_p29 F c_4)
def chargenetlaw49_SettlePositions_l133 (F : Nat) (c_4 : (List SBalance) × Int) (c_8 : List SPosition) (c_10 : List SPosition) : Nat → Int → Int → Option Bool
  | 0, _, _ => none
  | n + 1, t44_81, t45_82 => chargenetlaw49_SettlePositions_b133 F c_4 c_8 c_10 (fun t44_81 t45_82 => chargenetlaw49_SettlePositions_l133 F c_4 c_8 c_10 n t44_81 t45_82) t44_81 t45_82
def chargenetlaw49_SettlePositions (F : Nat) (a0_l : List SBalance) : Option Bool :=
  bif decide (60 < ((a0_l).length : Int)) then ((chargenetlaw49_exampleHolds F).bind fun c_2 => some c_2) else ((settle_Net F a0_l).bind fun c_4 => bif (!decide (c_4.2 = 0)) then (some (decide (((c_4.1).length : Int) = 0))) else (bif decide (IntKind.wrap .i64 (2 * ((a0_l).length : Int)) < ((c_4.1).length : Int)) then (some false) else ((chargenetref49_Positions F a0_l).bind fun c_8 => (chargenetref49_Positions F c_4.1).bind fun c_10 => chargenetlaw49_SettlePositions_l133 F c_4 c_8 c_10 F (((c_8).length : Int)) 0)))
def chargenetref01_Capital_p1 (a0_c : Int) : Option Int :=
  some a0_c
def chargenetref01_Capital (F : Nat) (a0_c : Int) : Option Int :=
  bif decide (97 ≤ a0_c) then (bif decide (a0_c ≤ 122) then (some (IntKind.wrap .u8 (a0_c - 32))) else (chargenetref01_Capital_p1 a0_c)) else (chargenetref01_Capital_p1 a0_c)
def chargenetref01_Value_p1  : Option Int :=
  some ((-1))
def chargenetref01_Value_b13 (F : Nat) (a0_c : Int) (kl_n_13 : Int → Option Int) (v_7 : Int) : Option Int :=
  bif decide (v_7 < 36) then (guard ((0 : Int) ≤ v_7 ∧ v_7 < ((ByteArray.mk #[48, 49, 50, 51, 52, 53, 54, 55, 56, 57, 65, 66, 67, 68, 69, 70, 71, 72, 73, 74, 75, 76, 77, 78, 79, 80, 81, 82, 83, 84, 85, 86, 87, 88, 89, 90]).size : Int)) ((chargenetref01_Capital F a0_c).bind fun c_16 => bif decide (sGet (ByteArray.mk #[48, 49, 50, 51, 52, 53, 54, 55, 56, 57, 65, 66, 67, 68, 69, 70, 71, 72, 73, 74, 75, 76, 77, 78, 79, 80, 81, 82, 83, 84, 85, 86, 87, 88, 89, 90]) v_7.toNat = c_16) then (some v_7) else (kl_n_13 (IntKind.wrap .i64 (v_7 + 1))))) else (chargenetref01_Value_p1)
def chargenetref01_Value_l13 (F : Nat) (a0_c : Int) : Nat → Int → Option Int
  | 0, _ => none
  | n + 1, v_7 => chargenetref01_Value_b13 F a0_c (fun v_7 => chargenetref01_Value_l13 F a0_c n v_7) v_7
def chargenetref01_Value (F : Nat) (a0_c : Int) : Option Int :=
  chargenetref01_Value_l13 F a0_c F 0
def chargenetref01_Valid_p3  : Option Bool :=
  some true
def chargenetref01_Valid_p29 (i_15 : Int) (kl_n_27 : Int → Option Bool) : Option Bool :=
  kl_n_27 (IntKind.wrap .i64 (i_15 + 1))
def chargenetref01_Valid_b27 (F : Nat) (a0_s : ByteArray) (kl_n_27 : Int → Option Bool) (i_15 : Int) : Option Bool :=
  bif decide (i_15 < (a0_s.size : Int)) then (guard ((0 : Int) ≤ i_15 ∧ i_15 < (a0_s.size : Int)) ((chargenetref01_Value F (sGet a0_s i_15.toNat)).bind fun c_31 => bif decide (c_31 < 0) then (bif (!decide (sGet a0_s i_15.toNat = 45)) then (bif (!decide (sGet a0_s i_15.toNat = 95)) then (bif (!decide (sGet a0_s i_15.toNat = 46)) then (bif (!decide (sGet a0_s i_15.toNat = 58)) then (bif (!decide (sGet a0_s i_15.toNat = 42)) then (some false) else (chargenetref01_Valid_p29 i_15 kl_n_27)) else (chargenetref01_Valid_p29 i_15 kl_n_27)) else (chargenetref01_Valid_p29 i_15 kl_n_27)) else (chargenetref01_Valid_p29 i_15 kl_n_27)) else (chargenetref01_Valid_p29 i_15 kl_n_27)) else (chargenetref01_Valid_p29 i_15 kl_n_27))) else (chargenetref01_Valid_p3)
def chargenetref01_Valid_l27 (F : Nat) (a0_s : ByteArray) : Nat → Int → Option Bool
  | 0, _ => none
  | n + 1, i_15 => chargenetref01_Valid_b27 F a0_s (fun i_15 => chargenetref01_Valid_l27 F a0_s n i_15) i_15
def chargenetref01_Valid (F : Nat) (a0_s : ByteArray) : Option Bool :=
  bif decide ((a0_s.size : Int) < 1) then (some false) else (bif decide (36 < (a0_s.size : Int)) then (some false) else (chargenetref01_Valid_l27 F a0_s F 0))
def chargenetref49_currency_p2  : Option Bool :=
  some true
def chargenetref49_currency_b14 (a0_s : ByteArray) (kl_n_14 : Int → Option Bool) (t9_8 : Int) : Option Bool :=
  bif decide (t9_8 < (a0_s.size : Int)) then (guard ((0 : Int) ≤ t9_8 ∧ t9_8 < (a0_s.size : Int)) (bif decide (sGet a0_s t9_8.toNat < 65) then (some false) else (guard ((0 : Int) ≤ t9_8 ∧ t9_8 < (a0_s.size : Int)) (bif decide (90 < sGet a0_s t9_8.toNat) then (some false) else (kl_n_14 (IntKind.wrap .i64 (t9_8 + 1))))))) else (chargenetref49_currency_p2)
def chargenetref49_currency_l14 (a0_s : ByteArray) : Nat → Int → Option Bool
  | 0, _ => none
  | n + 1, t9_8 => chargenetref49_currency_b14 a0_s (fun t9_8 => chargenetref49_currency_l14 a0_s n t9_8) t9_8
def chargenetref49_currency (F : Nat) (a0_s : ByteArray) : Option Bool :=
  bif (!decide ((a0_s.size : Int) = 3)) then (some false) else (chargenetref49_currency_l14 a0_s F 0)
def chargenetref49_Positions_own_p3 (o0_2 : List SPosition) : Option (List SPosition) :=
  some o0_2
def chargenetref49_Positions_own_p111 (t34_55 : Int) (kl_n_108 : Int → (List SPosition) → Option (List SPosition)) (o0_110 : List SPosition) : Option (List SPosition) :=
  kl_n_108 (IntKind.wrap .i64 (t34_55 + 1)) o0_110
def chargenetref49_Positions_own_p149 (j_127 : Int) (o0_128 : List SPosition) (kl_n_144 : Int → (List SPosition) → Option (List SPosition)) : Option (List SPosition) :=
  guard ((0 : Int) ≤ j_127 ∧ j_127 < ((o0_128).length : Int)) (guard ((0 : Int) ≤ IntKind.wrap .i64 (j_127 - 1) ∧ IntKind.wrap .i64 (j_127 - 1) < ((o0_128).length : Int)) (guard ((0 : Int) ≤ IntKind.wrap .i64 (j_127 - 1) ∧ IntKind.wrap .i64 (j_127 - 1) < ((o0_128).length : Int)) (guard ((0 : Int) ≤ j_127 ∧ j_127 < ((o0_128.set ((IntKind.wrap .i64 (j_127 - 1)).toNat) (o0_128.getD j_127.toNat dSPosition)).length : Int)) (kl_n_144 (IntKind.wrap .i64 (j_127 - 1)) ((o0_128.set ((IntKind.wrap .i64 (j_127 - 1)).toNat) (o0_128.getD j_127.toNat dSPosition)).set j_127.toNat (o0_128.getD ((IntKind.wrap .i64 (j_127 - 1)).toNat) dSPosition))))))
def chargenetref49_Positions_own_b144 (t34_55 : Int) (kl_n_108 : Int → (List SPosition) → Option (List SPosition)) (kl_n_144 : Int → (List SPosition) → Option (List SPosition)) (j_127 : Int) (o0_128 : List SPosition) : Option (List SPosition) :=
  bif decide (0 < j_127) then (guard ((0 : Int) ≤ IntKind.wrap .i64 (j_127 - 1) ∧ IntKind.wrap .i64 (j_127 - 1) < ((o0_128).length : Int)) (guard ((0 : Int) ≤ j_127 ∧ j_127 < ((o0_128).length : Int)) (bif (!(sLt ((o0_128.getD ((IntKind.wrap .i64 (j_127 - 1)).toNat) dSPosition).Currency) ((o0_128.getD j_127.toNat dSPosition).Currency) || sEq ((o0_128.getD ((IntKind.wrap .i64 (j_127 - 1)).toNat) dSPosition).Currency) ((o0_128.getD j_127.toNat dSPosition).Currency))) then (chargenetref49_Positions_own_p149 j_127 o0_128 kl_n_144) else (guard ((0 : Int) ≤ IntKind.wrap .i64 (j_127 - 1) ∧ IntKind.wrap .i64 (j_127 - 1) < ((o0_128).length : Int)) (guard ((0 : Int) ≤ j_127 ∧ j_127 < ((o0_128).length : Int)) (bif sEq ((o0_128.getD ((IntKind.wrap .i64 (j_127 - 1)).toNat) dSPosition).Currency) ((o0_128.getD j_127.toNat dSPosition).Currency) then (guard ((0 : Int) ≤ IntKind.wrap .i64 (j_127 - 1) ∧ IntKind.wrap .i64 (j_127 - 1) < ((o0_128).length : Int)) (guard ((0 : Int) ≤ j_127 ∧ j_127 < ((o0_128).length : Int)) (bif (!(sLt ((o0_128.getD ((IntKind.wrap .i64 (j_127 - 1)).toNat) dSPosition).Party) ((o0_128.getD j_127.toNat dSPosition).Party) || sEq ((o0_128.getD ((IntKind.wrap .i64 (j_127 - 1)).toNat) dSPosition).Party) ((o0_128.getD j_127.toNat dSPosition).Party))) then (chargenetref49_Positions_own_p149 j_127 o0_128 kl_n_144) else (chargenetref49_Positions_own_p111 t34_55 kl_n_108 o0_128)))) else (chargenetref49_Positions_own_p111 t34_55 kl_n_108 o0_128))))))) else (chargenetref49_Positions_own_p111 t34_55 kl_n_108 o0_128)
def chargenetref49_Positions_own_l144 (t34_55 : Int) (kl_n_108 : Int → (List SPosition) → Option (List SPosition)) : Nat → Int → (List SPosition) → Option (List SPosition)
  | 0, _, _ => none
  | n + 1, j_127, o0_128 => chargenetref49_Positions_own_b144 t34_55 kl_n_108 (fun j_127 o0_128 => chargenetref49_Positions_own_l144 t34_55 kl_n_108 n j_127 o0_128) j_127 o0_128
def chargenetref49_Positions_own_b108 (F : Nat) (o0_1 : List SPosition) (kl_n_108 : Int → (List SPosition) → Option (List SPosition)) (t34_55 : Int) (o0_56 : List SPosition) : Option (List SPosition) :=
  bif decide (t34_55 < ((o0_1).length : Int)) then (chargenetref49_Positions_own_l144 t34_55 kl_n_108 F t34_55 o0_56) else (chargenetref49_Positions_own_p3 o0_56)
def chargenetref49_Positions_own_l108 (F : Nat) (o0_1 : List SPosition) : Nat → Int → (List SPosition) → Option (List SPosition)
  | 0, _, _ => none
  | n + 1, t34_55, o0_56 => chargenetref49_Positions_own_b108 F o0_1 (fun t34_55 o0_56 => chargenetref49_Positions_own_l108 F o0_1 n t34_55 o0_56) t34_55 o0_56
def chargenetref49_Positions_own_p160 (F : Nat) (o0_1 : List SPosition) : Option (List SPosition) :=
  chargenetref49_Positions_own_l108 F o0_1 F 0 o0_1
def chargenetref49_Positions_own_b175 (F : Nat) (a0_l : List SBalance) (kl_n_175 : Int → (List SPosition) → Option (List SPosition)) (t10_167 : Int) (o0_168 : List SPosition) : Option (List SPosition) :=
  bif decide (t10_167 < ((a0_l).length : Int)) then (guard ((0 : Int) ≤ t10_167 ∧ t10_167 < ((a0_l).length : Int)) ((chargenetref49_add F o0_168 ((a0_l.getD t10_167.toNat dSBalance).Currency) ((a0_l.getD t10_167.toNat dSBalance).Creditor) ((a0_l.getD t10_167.toNat dSBalance).Amount)).bind fun c_178 => (chargenetref49_add F c_178 ((a0_l.getD t10_167.toNat dSBalance).Currency) ((a0_l.getD t10_167.toNat dSBalance).Debtor) (IntKind.wrap .i64 (0 - (a0_l.getD t10_167.toNat dSBalance).Amount))).bind fun c_180 => kl_n_175 (IntKind.wrap .i64 (t10_167 + 1)) c_180)) else (chargenetref49_Positions_own_p160 F o0_168)
def chargenetref49_Positions_own_l175 (F : Nat) (a0_l : List SBalance) : Nat → Int → (List SPosition) → Option (List SPosition)
  | 0, _, _ => none
  | n + 1, t10_167, o0_168 => chargenetref49_Positions_own_b175 F a0_l (fun t10_167 o0_168 => chargenetref49_Positions_own_l175 F a0_l n t10_167 o0_168) t10_167 o0_168
def chargenetref49_Positions_own (F : Nat) (a0_l : List SBalance) : Option (List SPosition) :=
  chargenetref49_Positions_own_l175 F a0_l F 0 (([] : List SPosition))
def chargenetref49_extremes_p1  : Option (Int × Int × Bool) :=
  some ((0, 0, false))
def chargenetref49_extremes_p150 (t13_82 : Int) (kl_n_148 : Int → Option (Int × Int × Bool)) : Option (Int × Int × Bool) :=
  kl_n_148 (IntKind.wrap .i64 (t13_82 + 1))
def chargenetref49_extremes_p155 (most_153 : Int) (least_154 : Int) : Option (Int × Int × Bool) :=
  some ((most_153, least_154, true))
def chargenetref49_extremes_p199 (t25_176 : Int) (kl_n_195 : Int → Int → Int → Option (Int × Int × Bool)) (most_197 : Int) (least_198 : Int) : Option (Int × Int × Bool) :=
  kl_n_195 most_197 least_198 (IntKind.wrap .i64 (t25_176 + 1))
def chargenetref49_extremes_p208 (a0_l : List SPosition) (least_175 : Int) (t25_176 : Int) (kl_n_195 : Int → Int → Int → Option (Int × Int × Bool)) (most_202 : Int) : Option (Int × Int × Bool) :=
  guard ((0 : Int) ≤ least_175 ∧ least_175 < ((a0_l).length : Int)) (bif decide ((a0_l.getD t25_176.toNat dSPosition).Amount < (a0_l.getD least_175.toNat dSPosition).Amount) then (chargenetref49_extremes_p199 t25_176 kl_n_195 most_202 t25_176) else (guard ((0 : Int) ≤ least_175 ∧ least_175 < ((a0_l).length : Int)) (bif decide ((a0_l.getD t25_176.toNat dSPosition).Amount = (a0_l.getD least_175.toNat dSPosition).Amount) then (bif decide (t25_176 < least_175) then (chargenetref49_extremes_p199 t25_176 kl_n_195 most_202 t25_176) else (chargenetref49_extremes_p199 t25_176 kl_n_195 most_202 least_175)) else (chargenetref49_extremes_p199 t25_176 kl_n_195 most_202 least_175))))
def chargenetref49_extremes_b195 (a0_l : List SPosition) (t13_82 : Int) (kl_n_195 : Int → Int → Int → Option (Int × Int × Bool)) (most_174 : Int) (least_175 : Int) (t25_176 : Int) : Option (Int × Int × Bool) :=
  bif decide (t25_176 < ((a0_l).length : Int)) then (guard ((0 : Int) ≤ t25_176 ∧ t25_176 < ((a0_l).length : Int)) (bif (!(sEq ((a0_l.getD t25_176.toNat dSPosition).Currency) ((a0_l.getD t13_82.toNat dSPosition).Currency))) then (chargenetref49_extremes_p199 t25_176 kl_n_195 most_174 least_175) else (guard ((0 : Int) ≤ most_174 ∧ most_174 < ((a0_l).length : Int)) (bif decide ((a0_l.getD most_174.toNat dSPosition).Amount < (a0_l.getD t25_176.toNat dSPosition).Amount) then (chargenetref49_extremes_p208 a0_l least_175 t25_176 kl_n_195 t25_176) else (guard ((0 : Int) ≤ most_174 ∧ most_174 < ((a0_l).length : Int)) (bif decide ((a0_l.getD t25_176.toNat dSPosition).Amount = (a0_l.getD most_174.toNat dSPosition).Amount) then (bif decide (t25_176 < most_174) then (chargenetref49_extremes_p208 a0_l least_175 t25_176 kl_n_195 t25_176) else (chargenetref49_extremes_p208 a0_l least_175 t25_176 kl_n_195 most_174)) else (chargenetref49_extremes_p208 a0_l least_175 t25_176 kl_n_195 most_174))))))) else (chargenetref49_extremes_p155 most_174 least_175)
def chargenetref49_extremes_l195 (a0_l : List SPosition) (t13_82 : Int) : Nat → Int → Int → Int → Option (Int × Int × Bool)
  | 0, _, _, _ => none
  | n + 1, most_174, least_175, t25_176 => chargenetref49_extremes_b195 a0_l t13_82 (fun most_174 least_175 t25_176 => chargenetref49_extremes_l195 a0_l t13_82 n most_174 least_175 t25_176) most_174 least_175 t25_176
def chargenetref49_extremes_b148 (F : Nat) (a0_l : List SPosition) (kl_n_148 : Int → Option (Int × Int × Bool)) (t13_82 : Int) : Option (Int × Int × Bool) :=
  bif decide (t13_82 < ((a0_l).length : Int)) then (guard ((0 : Int) ≤ t13_82 ∧ t13_82 < ((a0_l).length : Int)) (bif decide ((a0_l.getD t13_82.toNat dSPosition).Amount = 0) then (chargenetref49_extremes_p150 t13_82 kl_n_148) else (chargenetref49_extremes_l195 a0_l t13_82 F t13_82 t13_82 0))) else (chargenetref49_extremes_p1)
def chargenetref49_extremes_l148 (F : Nat) (a0_l : List SPosition) : Nat → Int → Option (Int × Int × Bool)
  | 0, _ => none
  | n + 1, t13_82 => chargenetref49_extremes_b148 F a0_l (fun t13_82 => chargenetref49_extremes_l148 F a0_l n t13_82) t13_82
def chargenetref49_extremes (F : Nat) (a0_l : List SPosition) : Option (Int × Int × Bool) :=
  chargenetref49_extremes_l148 F a0_l F 0
def chargenetref49_Net_b32 (F : Nat) (kl_n_32 : (List SPosition) → (List SBalance) → Option ((List SBalance) × Int)) (o0_17 : List SPosition) (o1_18 : List SBalance) : Option ((List SBalance) × Int) :=
  (chargenetref49_extremes F o0_17).bind fun c_33 => bif (!c_33.2.2) then (some ((o1_18, 0))) else (guard ((0 : Int) ≤ c_33.1 ∧ c_33.1 < ((o0_17).length : Int)) (guard ((0 : Int) ≤ c_33.2.1 ∧ c_33.2.1 < ((o0_17).length : Int)) (guard ((0 : Int) ≤ c_33.1 ∧ c_33.1 < ((o0_17).length : Int)) (guard ((0 : Int) ≤ c_33.2.1 ∧ c_33.2.1 < ((o0_17).length : Int)) (guard ((0 : Int) ≤ c_33.1 ∧ c_33.1 < ((o0_17).length : Int)) (guard (((o1_18).length + ([SBalance.mk ((o0_17.getD c_33.1.toNat dSPosition).Party) ((o0_17.getD c_33.2.1.toNat dSPosition).Party) ((o0_17.getD c_33.1.toNat dSPosition).Currency) ((if IntKind.wrap .i64 (0 - (o0_17.getD c_33.2.1.toNat dSPosition).Amount) < (o0_17.getD c_33.1.toNat dSPosition).Amount then IntKind.wrap .i64 (0 - (o0_17.getD c_33.2.1.toNat dSPosition).Amount) else (o0_17.getD c_33.1.toNat dSPosition).Amount))]).length) * 56 ≤ 140737488355328 ∧ (o1_18).length + ([SBalance.mk ((o0_17.getD c_33.1.toNat dSPosition).Party) ((o0_17.getD c_33.2.1.toNat dSPosition).Party) ((o0_17.getD c_33.1.toNat dSPosition).Currency) ((if IntKind.wrap .i64 (0 - (o0_17.getD c_33.2.1.toNat dSPosition).Amount) < (o0_17.getD c_33.1.toNat dSPosition).Amount then IntKind.wrap .i64 (0 - (o0_17.getD c_33.2.1.toNat dSPosition).Amount) else (o0_17.getD c_33.1.toNat dSPosition).Amount))]).length ≤ 140737488355328) (guard ((0 : Int) ≤ c_33.1 ∧ c_33.1 < ((o0_17).length : Int)) (guard ((0 : Int) ≤ c_33.1 ∧ c_33.1 < ((o0_17).length : Int)) (guard ((0 : Int) ≤ c_33.2.1 ∧ c_33.2.1 < ((o0_17.set c_33.1.toNat (SPosition.mk ((o0_17.getD c_33.1.toNat dSPosition).Currency) ((o0_17.getD c_33.1.toNat dSPosition).Party) (IntKind.wrap .i64 ((o0_17.getD c_33.1.toNat dSPosition).Amount - (if IntKind.wrap .i64 (0 - (o0_17.getD c_33.2.1.toNat dSPosition).Amount) < (o0_17.getD c_33.1.toNat dSPosition).Amount then IntKind.wrap .i64 (0 - (o0_17.getD c_33.2.1.toNat dSPosition).Amount) else (o0_17.getD c_33.1.toNat dSPosition).Amount))))).length : Int)) (guard ((0 : Int) ≤ c_33.2.1 ∧ c_33.2.1 < ((o0_17.set c_33.1.toNat (SPosition.mk ((o0_17.getD c_33.1.toNat dSPosition).Currency) ((o0_17.getD c_33.1.toNat dSPosition).Party) (IntKind.wrap .i64 ((o0_17.getD c_33.1.toNat dSPosition).Amount - (if IntKind.wrap .i64 (0 - (o0_17.getD c_33.2.1.toNat dSPosition).Amount) < (o0_17.getD c_33.1.toNat dSPosition).Amount then IntKind.wrap .i64 (0 - (o0_17.getD c_33.2.1.toNat dSPosition).Amount) else (o0_17.getD c_33.1.toNat dSPosition).Amount))))).length : Int)) (kl_n_32 ((o0_17.set c_33.1.toNat (SPosition.mk ((o0_17.getD c_33.1.toNat dSPosition).Currency) ((o0_17.getD c_33.1.toNat dSPosition).Party) (IntKind.wrap .i64 ((o0_17.getD c_33.1.toNat dSPosition).Amount - (if IntKind.wrap .i64 (0 - (o0_17.getD c_33.2.1.toNat dSPosition).Amount) < (o0_17.getD c_33.1.toNat dSPosition).Amount then IntKind.wrap .i64 (0 - (o0_17.getD c_33.2.1.toNat dSPosition).Amount) else (o0_17.getD c_33.1.toNat dSPosition).Amount))))).set c_33.2.1.toNat (SPosition.mk (((o0_17.set c_33.1.toNat (SPosition.mk ((o0_17.getD c_33.1.toNat dSPosition).Currency) ((o0_17.getD c_33.1.toNat dSPosition).Party) (IntKind.wrap .i64 ((o0_17.getD c_33.1.toNat dSPosition).Amount - (if IntKind.wrap .i64 (0 - (o0_17.getD c_33.2.1.toNat dSPosition).Amount) < (o0_17.getD c_33.1.toNat dSPosition).Amount then IntKind.wrap .i64 (0 - (o0_17.getD c_33.2.1.toNat dSPosition).Amount) else (o0_17.getD c_33.1.toNat dSPosition).Amount))))).getD c_33.2.1.toNat dSPosition).Currency) (((o0_17.set c_33.1.toNat (SPosition.mk ((o0_17.getD c_33.1.toNat dSPosition).Currency) ((o0_17.getD c_33.1.toNat dSPosition).Party) (IntKind.wrap .i64 ((o0_17.getD c_33.1.toNat dSPosition).Amount - (if IntKind.wrap .i64 (0 - (o0_17.getD c_33.2.1.toNat dSPosition).Amount) < (o0_17.getD c_33.1.toNat dSPosition).Amount then IntKind.wrap .i64 (0 - (o0_17.getD c_33.2.1.toNat dSPosition).Amount) else (o0_17.getD c_33.1.toNat dSPosition).Amount))))).getD c_33.2.1.toNat dSPosition).Party) (IntKind.wrap .i64 (((o0_17.set c_33.1.toNat (SPosition.mk ((o0_17.getD c_33.1.toNat dSPosition).Currency) ((o0_17.getD c_33.1.toNat dSPosition).Party) (IntKind.wrap .i64 ((o0_17.getD c_33.1.toNat dSPosition).Amount - (if IntKind.wrap .i64 (0 - (o0_17.getD c_33.2.1.toNat dSPosition).Amount) < (o0_17.getD c_33.1.toNat dSPosition).Amount then IntKind.wrap .i64 (0 - (o0_17.getD c_33.2.1.toNat dSPosition).Amount) else (o0_17.getD c_33.1.toNat dSPosition).Amount))))).getD c_33.2.1.toNat dSPosition).Amount + (if IntKind.wrap .i64 (0 - (o0_17.getD c_33.2.1.toNat dSPosition).Amount) < (o0_17.getD c_33.1.toNat dSPosition).Amount then IntKind.wrap .i64 (0 - (o0_17.getD c_33.2.1.toNat dSPosition).Amount) else (o0_17.getD c_33.1.toNat dSPosition).Amount))))) (o1_18 ++ ([SBalance.mk ((o0_17.getD c_33.1.toNat dSPosition).Party) ((o0_17.getD c_33.2.1.toNat dSPosition).Party) ((o0_17.getD c_33.1.toNat dSPosition).Currency) ((if IntKind.wrap .i64 (0 - (o0_17.getD c_33.2.1.toNat dSPosition).Amount) < (o0_17.getD c_33.1.toNat dSPosition).Amount then IntKind.wrap .i64 (0 - (o0_17.getD c_33.2.1.toNat dSPosition).Amount) else (o0_17.getD c_33.1.toNat dSPosition).Amount))])))))))))))))
def chargenetref49_Net_l32 (F : Nat) : Nat → (List SPosition) → (List SBalance) → Option ((List SBalance) × Int)
  | 0, _, _ => none
  | n + 1, o0_17, o1_18 => chargenetref49_Net_b32 F (fun o0_17 o1_18 => chargenetref49_Net_l32 F n o0_17 o1_18) o0_17 o1_18
def chargenetref49_Net_p46 (F : Nat) (a0_l : List SBalance) : Option ((List SBalance) × Int) :=
  (chargenetref49_Positions_own F a0_l).bind fun c_2 => chargenetref49_Net_l32 F F c_2 (([] : List SBalance))
def chargenetref49_Net_p91 (F : Nat) (a0_l : List SBalance) (t17_63 : Int) (kl_n_80 : Int → Option ((List SBalance) × Int)) (t21_83 : Bool) : Option ((List SBalance) × Int) :=
  bif t21_83 then (some (([], 4))) else (bif sEq ((a0_l.getD t17_63.toNat dSBalance).Creditor) ((a0_l.getD t17_63.toNat dSBalance).Debtor) then (some (([], 1))) else ((chargenetref49_currency F ((a0_l.getD t17_63.toNat dSBalance).Currency)).bind fun c_86 => bif (!c_86) then (some (([], 21))) else (bif decide ((a0_l.getD t17_63.toNat dSBalance).Amount < 0) then (some (([], 2))) else (bif decide (1099511627776 < (a0_l.getD t17_63.toNat dSBalance).Amount) then (some (([], 2))) else (kl_n_80 (IntKind.wrap .i64 (t17_63 + 1)))))))
def chargenetref49_Net_b80 (F : Nat) (a0_l : List SBalance) (kl_n_80 : Int → Option ((List SBalance) × Int)) (t17_63 : Int) : Option ((List SBalance) × Int) :=
  bif decide (t17_63 < ((a0_l).length : Int)) then (guard ((0 : Int) ≤ t17_63 ∧ t17_63 < ((a0_l).length : Int)) ((chargenetref01_Valid F ((a0_l.getD t17_63.toNat dSBalance).Creditor)).bind fun c_92 => bif (!c_92) then (chargenetref49_Net_p91 F a0_l t17_63 kl_n_80 true) else ((chargenetref01_Valid F ((a0_l.getD t17_63.toNat dSBalance).Debtor)).bind fun c_95 => chargenetref49_Net_p91 F a0_l t17_63 kl_n_80 ((!c_95))))) else (chargenetref49_Net_p46 F a0_l)
def chargenetref49_Net_l80 (F : Nat) (a0_l : List SBalance) : Nat → Int → Option ((List SBalance) × Int)
  | 0, _ => none
  | n + 1, t17_63 => chargenetref49_Net_b80 F a0_l (fun t17_63 => chargenetref49_Net_l80 F a0_l n t17_63) t17_63
def chargenetref49_Net (F : Nat) (a0_l : List SBalance) : Option ((List SBalance) × Int) :=
  bif decide (1024 < ((a0_l).length : Int)) then (some (([], 3))) else (chargenetref49_Net_l80 F a0_l F 0)
def chargenetlaw49_SettleNets (F : Nat) (a0_l : List SBalance) : Option Bool :=
  bif decide (60 < ((a0_l).length : Int)) then ((chargenetlaw49_exampleHolds F).bind fun c_2 => some c_2) else ((settle_Net F a0_l).bind fun c_4 => (chargenetref49_Net F a0_l).bind fun c_6 => bif decide (c_4.2 = c_6.2) then ((chargenetlaw49_same F c_4.1 c_6.1).bind fun c_9 => some c_9) else (some false))
end Go.Proofs.Ytoncfkdgddfnlaa.M
