/- Written by a program of ours (wip/eng/gen.py): the plain models of the functions. -/
import Derived.Test.YtllifhmllicnhaaEngL
namespace Go.Proofs.Ytllifhmllicnhaa.M
open Go Go.Proofs.Ytllifhmllicnhaa.E
set_option linter.unusedVariables false
structure SDeal where
  Back : Bool
  Net : Int
  Claim : Int
  Granted : Int
  Credited : Bool
def dSDeal : SDeal := ⟨false, 0, 0, 0, false⟩
structure SItem where
  Kind : Int
  Price : Int
  Tax : Int
  Quantity : Int
  Net : Int
  Vat : Int
  Gross : Int
def dSItem : SItem := ⟨0, 0, 0, 0, 0, 0, 0⟩
structure SCDR where
  ID : ByteArray
  Operator : ByteArray
  Provider : ByteArray
  Session : ByteArray
  Version : Int
  Start : Int
  End : Int
  Energy : Int
  Tariff : ByteArray
  Currency : ByteArray
  Items : List SItem
  Total : Int
  Credit : Bool
  Ref : ByteArray
def dSCDR : SCDR := ⟨ByteArray.empty, ByteArray.empty, ByteArray.empty, ByteArray.empty, 0, 0, 0, 0, ByteArray.empty, ByteArray.empty, [], 0, false, ByteArray.empty⟩
structure SDispute where
  CDR : ByteArray
  By : ByteArray
  State : Int
  Opened : Int
  Claim : Int
  Granted : Int
def dSDispute : SDispute := ⟨ByteArray.empty, ByteArray.empty, 0, 0, 0, 0⟩
def chargenettop_dealt_p5 (a0_i : Int) (a1_d : SDeal) (b1_3 : ByteArray) (b1_4 : ByteArray) : Option SCDR :=
  some (SCDR.mk ((ByteArray.mk #[99]) ++ (bytesS ([IntKind.wrap .u8 (IntKind.wrap .i64 (48 + a0_i))]))) b1_3 b1_4 ((ByteArray.mk #[83, 45]) ++ (bytesS ([IntKind.wrap .u8 (IntKind.wrap .i64 (48 + a0_i))]))) 1 a0_i (IntKind.wrap .i64 (a0_i + 30)) (IntKind.wrap .i64 a1_d.Net) (ByteArray.mk #[84]) (ByteArray.mk #[69, 85, 82]) ([SItem.mk 2 300 0 (IntKind.wrap .i64 a1_d.Net) (IntKind.wrap .i64 a1_d.Net) 0 (IntKind.wrap .i64 a1_d.Net)]) (IntKind.wrap .i64 a1_d.Net) false ByteArray.empty)
def chargenettop_dealt (F : Nat) (a0_i : Int) (a1_d : SDeal) : Option SCDR :=
  guard ((ByteArray.mk #[99]).size + (bytesS ([IntKind.wrap .u8 (IntKind.wrap .i64 (48 + a0_i))])).size ≤ 9223372036854775807) (guard ((ByteArray.mk #[83, 45]).size + (bytesS ([IntKind.wrap .u8 (IntKind.wrap .i64 (48 + a0_i))])).size ≤ 9223372036854775807) (bif a1_d.Back then (chargenettop_dealt_p5 a0_i a1_d (ByteArray.mk #[66]) (ByteArray.mk #[65])) else (chargenettop_dealt_p5 a0_i a1_d (ByteArray.mk #[65]) (ByteArray.mk #[66]))))
def ident_value_p1  : Option Int :=
  some ((-1))
def ident_value_p8 (a0_r : Int) (t13_4 : Bool) : Option Int :=
  bif t13_4 then (some (IntKind.wrap .i64 (IntKind.wrap .i64 (IntKind.wrap .i32 (a0_r - 65)) + 10))) else (bif decide (97 ≤ a0_r) then (bif decide (a0_r ≤ 122) then (some (IntKind.wrap .i64 (IntKind.wrap .i64 (IntKind.wrap .i32 (a0_r - 97)) + 10))) else (ident_value_p1)) else (ident_value_p1))
def ident_value_p10 (a0_r : Int) (t3_2 : Bool) : Option Int :=
  bif t3_2 then (some (IntKind.wrap .i64 (IntKind.wrap .i32 (a0_r - 48)))) else (bif decide (65 ≤ a0_r) then (ident_value_p8 a0_r (decide (a0_r ≤ 90))) else (ident_value_p8 a0_r false))
def ident_value (F : Nat) (a0_r : Int) : Option Int :=
  bif decide (48 ≤ a0_r) then (ident_value_p10 a0_r (decide (a0_r ≤ 57))) else (ident_value_p10 a0_r false)
def ident_Valid_p3  : Option Bool :=
  some true
def ident_Valid_p36 (F : Nat) (a0_s : ByteArray) (pos_17 : Nat) (kl_n_29 : Nat → Option Bool) (t19_31 : Bool) : Option Bool :=
  bif t19_31 then (kl_n_29 (pos_17 + (Utf8.decode a0_s pos_17).2)) else ((ident_value F (((Utf8.decode a0_s pos_17).1 : Int))).bind fun c_33 => bif decide (c_33 < 0) then (some false) else (kl_n_29 (pos_17 + (Utf8.decode a0_s pos_17).2)))
def ident_Valid_b29 (F : Nat) (a0_s : ByteArray) (kl_n_29 : Nat → Option Bool) (pos_17 : Nat) : Option Bool :=
  bif decide (pos_17 < a0_s.size) then (bif decide (((Utf8.decode a0_s pos_17).1 : Int) = 45) then (ident_Valid_p36 F a0_s pos_17 kl_n_29 (decide (((Utf8.decode a0_s pos_17).1 : Int) = 45))) else (bif decide (((Utf8.decode a0_s pos_17).1 : Int) = 95) then (ident_Valid_p36 F a0_s pos_17 kl_n_29 (decide (((Utf8.decode a0_s pos_17).1 : Int) = 95))) else (bif decide (((Utf8.decode a0_s pos_17).1 : Int) = 46) then (ident_Valid_p36 F a0_s pos_17 kl_n_29 (decide (((Utf8.decode a0_s pos_17).1 : Int) = 46))) else (bif decide (((Utf8.decode a0_s pos_17).1 : Int) = 58) then (ident_Valid_p36 F a0_s pos_17 kl_n_29 (decide (((Utf8.decode a0_s pos_17).1 : Int) = 58))) else (ident_Valid_p36 F a0_s pos_17 kl_n_29 (decide (((Utf8.decode a0_s pos_17).1 : Int) = 42))))))) else (ident_Valid_p3)
def ident_Valid_l29 (F : Nat) (a0_s : ByteArray) : Nat → Nat → Option Bool
  | 0, _ => none
  | n + 1, pos_17 => ident_Valid_b29 F a0_s (fun pos_17 => ident_Valid_l29 F a0_s n pos_17) pos_17
def ident_Valid (F : Nat) (a0_s : ByteArray) : Option Bool :=
  bif decide ((a0_s.size : Int) < 1) then (some false) else (bif decide (36 < (a0_s.size : Int)) then (some false) else (ident_Valid_l29 F a0_s F 0))
def cdr_names_p1  : Option Int :=
  some 0
def cdr_names_b13 (F : Nat) (a0_l : List ByteArray) (kl_n_13 : Int → Option Int) (t7_7 : Int) : Option Int :=
  bif decide (t7_7 < ((a0_l).length : Int)) then (guard (0 ≤ t7_7 ∧ t7_7 < ((a0_l).length : Int)) ((ident_Valid F (a0_l.getD t7_7.toNat ByteArray.empty)).bind fun c_16 => bif (!c_16) then (some 4) else (kl_n_13 (IntKind.wrap .i64 (t7_7 + 1))))) else (cdr_names_p1)
def cdr_names_l13 (F : Nat) (a0_l : List ByteArray) : Nat → Int → Option Int
  | 0, _ => none
  | n + 1, t7_7 => cdr_names_b13 F a0_l (fun t7_7 => cdr_names_l13 F a0_l n t7_7) t7_7
def cdr_names (F : Nat) (a0_l : List ByteArray) : Option Int :=
  cdr_names_l13 F a0_l F 0
def cdr_within_p1  : Option Bool :=
  some true
def cdr_within_b11 (a0_least : Int) (a1_most : Int) (a2_l : List Int) (kl_n_11 : Int → Option Bool) (t11_6 : Int) : Option Bool :=
  bif decide (t11_6 < ((a2_l).length : Int)) then (guard (0 ≤ t11_6 ∧ t11_6 < ((a2_l).length : Int)) (bif decide (a2_l.getD t11_6.toNat 0 < a0_least) then (some false) else (bif decide (a1_most < a2_l.getD t11_6.toNat 0) then (some false) else (kl_n_11 (IntKind.wrap .i64 (t11_6 + 1)))))) else (cdr_within_p1)
def cdr_within_l11 (a0_least : Int) (a1_most : Int) (a2_l : List Int) : Nat → Int → Option Bool
  | 0, _ => none
  | n + 1, t11_6 => cdr_within_b11 a0_least a1_most a2_l (fun t11_6 => cdr_within_l11 a0_least a1_most a2_l n t11_6) t11_6
def cdr_within (F : Nat) (a0_least : Int) (a1_most : Int) (a2_l : List Int) : Option Bool :=
  cdr_within_l11 a0_least a1_most a2_l F 0
def cdr_isCurrency_p2  : Option Bool :=
  some true
def cdr_isCurrency_b14 (a0_s : ByteArray) (kl_n_14 : Int → Option Bool) (t9_8 : Int) : Option Bool :=
  bif decide (t9_8 < (a0_s.size : Int)) then (guard (0 ≤ t9_8 ∧ t9_8 < (a0_s.size : Int)) (bif decide (sGet a0_s t9_8.toNat < 65) then (some false) else (guard (0 ≤ t9_8 ∧ t9_8 < (a0_s.size : Int)) (bif decide (90 < sGet a0_s t9_8.toNat) then (some false) else (kl_n_14 (IntKind.wrap .i64 (t9_8 + 1))))))) else (cdr_isCurrency_p2)
def cdr_isCurrency_l14 (a0_s : ByteArray) : Nat → Int → Option Bool
  | 0, _ => none
  | n + 1, t9_8 => cdr_isCurrency_b14 a0_s (fun t9_8 => cdr_isCurrency_l14 a0_s n t9_8) t9_8
def cdr_isCurrency (F : Nat) (a0_s : ByteArray) : Option Bool :=
  bif (!decide ((a0_s.size : Int) = 3)) then (some false) else (cdr_isCurrency_l14 a0_s F 0)
def cdr_validItem (F : Nat) (a0_i : SItem) : Option Bool :=
  (cdr_within F 1 4 ([a0_i.Kind])).bind fun c_1 => bif c_1 then ((cdr_within F 0 10000 ([a0_i.Tax])).bind fun c_4 => bif c_4 then ((cdr_within F ((-36028797018963968)) 36028797018963968 ([a0_i.Net, a0_i.Vat, a0_i.Price])).bind fun c_7 => bif c_7 then ((cdr_within F 0 36028797018963968 ([a0_i.Quantity])).bind fun c_10 => bif c_10 then (some (decide (a0_i.Gross = IntKind.wrap .i64 (a0_i.Net + a0_i.Vat)))) else (some false)) else (some false)) else (some false)) else (some false)
def cdr_validItems_p4 (a0_c : SCDR) (total_2 : Int) : Option Int :=
  bif (!decide (a0_c.Total = total_2)) then (some 1) else (some 0)
def cdr_validItems_b17 (F : Nat) (a0_c : SCDR) (kl_n_17 : Int → Int → Option Int) (total_10 : Int) (t13_11 : Int) : Option Int :=
  bif decide (t13_11 < ((a0_c.Items).length : Int)) then (guard (0 ≤ t13_11 ∧ t13_11 < ((a0_c.Items).length : Int)) ((cdr_validItem F (SItem.mk ((a0_c.Items.getD t13_11.toNat dSItem).Kind) ((a0_c.Items.getD t13_11.toNat dSItem).Price) ((a0_c.Items.getD t13_11.toNat dSItem).Tax) ((a0_c.Items.getD t13_11.toNat dSItem).Quantity) ((a0_c.Items.getD t13_11.toNat dSItem).Net) ((a0_c.Items.getD t13_11.toNat dSItem).Vat) ((a0_c.Items.getD t13_11.toNat dSItem).Gross))).bind fun c_20 => bif (!c_20) then (some 1) else (kl_n_17 (IntKind.wrap .i64 (total_10 + (a0_c.Items.getD t13_11.toNat dSItem).Gross)) (IntKind.wrap .i64 (t13_11 + 1))))) else (cdr_validItems_p4 a0_c total_10)
def cdr_validItems_l17 (F : Nat) (a0_c : SCDR) : Nat → Int → Int → Option Int
  | 0, _, _ => none
  | n + 1, total_10, t13_11 => cdr_validItems_b17 F a0_c (fun total_10 t13_11 => cdr_validItems_l17 F a0_c n total_10 t13_11) total_10 t13_11
def cdr_validItems (F : Nat) (a0_c : SCDR) : Option Int :=
  bif decide (32 < ((a0_c.Items).length : Int)) then (some 3) else (cdr_validItems_l17 F a0_c F 0 0)
def cdr_validRef (F : Nat) (a0_c : SCDR) : Option Int :=
  bif (!a0_c.Credit) then (bif (!(sEq a0_c.Ref ByteArray.empty)) then (some 1) else (some 0)) else ((ident_Valid F a0_c.Ref).bind fun c_3 => bif (!c_3) then (some 4) else (bif sEq a0_c.Ref a0_c.ID then (some 1) else (some 0)))
def cdr_Valid (F : Nat) (a0_c : SCDR) : Option Int :=
  (cdr_names F ([a0_c.ID, a0_c.Operator, a0_c.Provider, a0_c.Session, a0_c.Tariff])).bind fun c_1 => bif (!decide (c_1 = 0)) then (some c_1) else (bif sEq a0_c.Operator a0_c.Provider then (some 1) else ((cdr_within F 1 2147483647 ([a0_c.Version])).bind fun c_5 => bif (!c_5) then (some 2) else ((cdr_within F 0 268435456 ([a0_c.Start, a0_c.End])).bind fun c_8 => bif (!c_8) then (some 2) else (bif decide (a0_c.End < a0_c.Start) then (some 2) else ((cdr_within F 0 36028797018963968 ([a0_c.Energy])).bind fun c_12 => bif (!c_12) then (some 2) else ((cdr_isCurrency F a0_c.Currency).bind fun c_15 => bif (!c_15) then (some 21) else ((cdr_validItems F a0_c).bind fun c_18 => bif (!decide (c_18 = 0)) then (some c_18) else ((cdr_validRef F a0_c).bind fun c_21 => some c_21))))))))
def dispute_Open (F : Nat) (a0_c : SCDR) (a1_by : ByteArray) (a2_claim : Int) (a3_now : Int) : Option (SDispute × Int) :=
  (cdr_Valid F a0_c).bind fun c_1 => bif (!decide (c_1 = 0)) then (some ((SDispute.mk ByteArray.empty ByteArray.empty 0 0 0 0, c_1))) else (bif a0_c.Credit then (some ((SDispute.mk ByteArray.empty ByteArray.empty 0 0 0 0, 10))) else (bif (!(sEq a1_by a0_c.Provider)) then (some ((SDispute.mk ByteArray.empty ByteArray.empty 0 0 0 0, 15))) else (bif decide (a2_claim < 1) then (some ((SDispute.mk ByteArray.empty ByteArray.empty 0 0 0 0, 2))) else (bif decide (a0_c.Total < a2_claim) then (some ((SDispute.mk ByteArray.empty ByteArray.empty 0 0 0 0, 2))) else (bif decide (36028797018963968 < a2_claim) then (some ((SDispute.mk ByteArray.empty ByteArray.empty 0 0 0 0, 2))) else (bif decide (a3_now < a0_c.End) then (some ((SDispute.mk ByteArray.empty ByteArray.empty 0 0 0 0, 2))) else (bif decide (268435456 < a3_now) then (some ((SDispute.mk ByteArray.empty ByteArray.empty 0 0 0 0, 2))) else (bif decide (IntKind.wrap .i64 (a0_c.End + 43200) < a3_now) then (some ((SDispute.mk ByteArray.empty ByteArray.empty 0 0 0 0, 12))) else (some ((SDispute.mk a0_c.ID a1_by 1 a3_now a2_claim 0, 0)))))))))))
def dispute_Valid (F : Nat) (a0_d : SDispute) : Option Int :=
  (ident_Valid F a0_d.CDR).bind fun c_1 => bif (!c_1) then (some 4) else ((ident_Valid F a0_d.By).bind fun c_4 => bif (!c_4) then (some 4) else (bif decide (a0_d.State < 1) then (some 2) else (bif decide (6 < a0_d.State) then (some 2) else (bif decide (a0_d.Opened < 0) then (some 2) else (bif decide (268435456 < a0_d.Opened) then (some 2) else (bif decide (a0_d.Claim < 1) then (some 2) else (bif decide (36028797018963968 < a0_d.Claim) then (some 2) else (bif decide (a0_d.Granted < 0) then (some 2) else (bif decide (a0_d.Claim < a0_d.Granted) then (some 2) else (bif (!(decide (a0_d.Granted = 0) == (!decide (a0_d.State = 4)))) then (some 1) else (some 0)))))))))))
def dispute_Amount_p1 (a0_c : SCDR) : Option Int :=
  some a0_c.Total
def dispute_Amount_p15 (t9_7 : Int) (kl_n_13 : Int → Option Int) : Option Int :=
  kl_n_13 (IntKind.wrap .i64 (t9_7 + 1))
def dispute_Amount_b13 (a0_c : SCDR) (a1_l : List SDispute) (kl_n_13 : Int → Option Int) (t9_7 : Int) : Option Int :=
  bif decide (t9_7 < ((a1_l).length : Int)) then (guard (0 ≤ t9_7 ∧ t9_7 < ((a1_l).length : Int)) (bif sEq ((a1_l.getD t9_7.toNat dSDispute).CDR) a0_c.ID then (bif decide ((a1_l.getD t9_7.toNat dSDispute).State = 4) then (some (IntKind.wrap .i64 (a0_c.Total - (a1_l.getD t9_7.toNat dSDispute).Granted))) else (dispute_Amount_p15 t9_7 kl_n_13)) else (dispute_Amount_p15 t9_7 kl_n_13))) else (dispute_Amount_p1 a0_c)
def dispute_Amount_l13 (a0_c : SCDR) (a1_l : List SDispute) : Nat → Int → Option Int
  | 0, _ => none
  | n + 1, t9_7 => dispute_Amount_b13 a0_c a1_l (fun t9_7 => dispute_Amount_l13 a0_c a1_l n t9_7) t9_7
def dispute_Amount (F : Nat) (a0_c : SCDR) (a1_l : List SDispute) : Option Int :=
  dispute_Amount_l13 a0_c a1_l F 0
def chargenettop_DisputesSettle (F : Nat) (a0_net : Int) (a1_claim : Int) (a2_granted : Int) : Option Bool :=
  (chargenettop_dealt F 0 (SDeal.mk false a0_net 0 0 false)).bind fun c_1 => bif decide (a1_claim < 1) then (some true) else (bif decide (a0_net < a1_claim) then (some true) else (bif decide (a2_granted < 1) then (some true) else (bif decide (a1_claim < a2_granted) then (some true) else ((dispute_Open F c_1 (ByteArray.mk #[66]) (IntKind.wrap .i64 a1_claim) 100).bind fun c_7 => bif (!decide (c_7.2 = 0)) then (some false) else ((dispute_Valid F (SDispute.mk c_7.1.CDR c_7.1.By 4 c_7.1.Opened c_7.1.Claim (IntKind.wrap .i64 a2_granted))).bind fun c_10 => bif (!decide (c_10 = 0)) then (some false) else ((dispute_Amount F c_1 ([SDispute.mk c_7.1.CDR c_7.1.By 4 c_7.1.Opened c_7.1.Claim (IntKind.wrap .i64 a2_granted)])).bind fun c_13 => some (decide (c_13 = IntKind.wrap .i64 (IntKind.wrap .i64 a0_net - IntKind.wrap .i64 a2_granted)))))))))
end Go.Proofs.Ytllifhmllicnhaa.M
