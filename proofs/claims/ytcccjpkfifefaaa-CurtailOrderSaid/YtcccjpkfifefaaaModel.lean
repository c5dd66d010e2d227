/- Written by a program of ours (wip/eng/gen.py): the plain models of the functions. -/
import Derived.Test.YtcccjpkfifefaaaEngT
namespace Go.Proofs.Ytcccjpkfifefaaa.M
open Go Go.Proofs.Ytcccjpkfifefaaa.E
set_option linter.unusedVariables false
structure SSpan where
  From : Int
  To : Int
def dSSpan : SSpan := ⟨0, 0⟩
structure SCurtail where
  Name : ByteArray
  Version : Int
  Feeder : Int
  Span_From : Int
  Span_To : Int
  Total : Int
  Cancelled : Bool
def dSCurtail : SCurtail := ⟨ByteArray.empty, 0, 0, 0, 0, 0, false⟩
structure STri where
  A : Int
  B : Int
  C : Int
def dSTri : STri := ⟨0, 0, 0⟩
structure SFeeder where
  Name : ByteArray
  Parent : Int
  Rated_A : Int
  Rated_B : Int
  Rated_C : Int
def dSFeeder : SFeeder := ⟨ByteArray.empty, 0, 0, 0, 0⟩
structure SPoint where
  Name : ByteArray
  Feeder : Int
  Phases : Int
  Rated : Int
  Min : Int
def dSPoint : SPoint := ⟨ByteArray.empty, 0, 0, 0, 0⟩
structure SSite where
  Name : ByteArray
  Feeders : List SFeeder
  Points : List SPoint
def dSSite : SSite := ⟨ByteArray.empty, [], []⟩
def ident_value_p1  : Option Int :=
  some ((-1))
def ident_value_p8 (a0_r : Int) (t13_4 : Bool) : Option Int :=
  bif t13_4 then (some (IntKind.wrap .i64 (IntKind.wrap .i64 (IntKind.wrap .i32 (a0_r - 65)) + 10))) else (bif decide (97 ≤ a0_r) then (bif decide (a0_r ≤ 122) then (some (IntKind.wrap .i64 (IntKind.wrap .i64 (IntKind.wrap .i32 (a0_r - 97)) + 10))) else (ident_value_p1)) else (ident_value_p1))
def ident_value_p10 (a0_r : Int) (t3_2 : Bool) : Option Int :=
  bif t3_2 then (some (IntKind.wrap .i64 (IntKind.wrap .i32 (a0_r - 48)))) else (bif decide (65 ≤ a0_r) then (ident_value_p8 a0_r (decide (a0_r ≤ 90))) else (ident_value_p8 a0_r false))
def ident_value (F : Nat) (a0_r : Int) : Option Int :=
  bif decide (48 ≤ a0_r) then (ident_value_p10 a0_r (decide (a0_r ≤ 57))) else (ident_value_p10 a0_r false)
def ident_Valid_p3  : Option Bool :=
  some true
def ident_Valid_p36 (F : Nat) (a0_s : ByteArray) (pos_17 : Nat) (kl_n_29 : Nat → Option Bool) (t19_31 : Bool) : Option Bool :=
  bif t19_31 then (kl_n_29 (pos_17 + (Utf8.decode a0_s pos_17).2)) else ((ident_value F (((Utf8.decode a0_s pos_17).1 : Int))).bind fun c_33 => bif decide (c_33 < 0) then (some false) else (kl_n_29 (pos_17 + (Utf8.decode a0_s pos_17).2)))
def ident_Valid_b29 (F : Nat) (a0_s : ByteArray) (kl_n_29 : Nat → Option Bool) (pos_17 : Nat) : Option Bool :=
  bif decide (pos_17 < a0_s.size) then (bif decide (((Utf8.decode a0_s pos_17).1 : Int) = 45) then (ident_Valid_p36 F a0_s pos_17 kl_n_29 (decide (((Utf8.decode a0_s pos_17).1 : Int) = 45))) else (bif decide (((Utf8.decode a0_s pos_17).1 : Int) = 95) then (ident_Valid_p36 F a0_s pos_17 kl_n_29 (decide (((Utf8.decode a0_s pos_17).1 : Int) = 95))) else (bif decide (((Utf8.decode a0_s pos_17).1 : Int) = 46) then (ident_Valid_p36 F a0_s pos_17 kl_n_29 (decide (((Utf8.decode a0_s pos_17).1 : Int) = 46))) else (bif decide (((Utf8.decode a0_s pos_17).1 : Int) = 58) then (ident_Valid_p36 F a0_s pos_17 kl_n_29 (decide (((Utf8.decode a0_s pos_17).1 : Int) = 58))) else (ident_Valid_p36 F a0_s pos_17 kl_n_29 (decide (((Utf8.decode a0_s pos_17).1 : Int) = 42))))))) else (ident_Valid_p3)
def ident_Valid_l29 (F : Nat) (a0_s : ByteArray) : Nat → Nat → Option Bool
  | 0, _ => none
  | n + 1, pos_17 => ident_Valid_b29 F a0_s (fun pos_17 => ident_Valid_l29 F a0_s n pos_17) pos_17
def ident_Valid (F : Nat) (a0_s : ByteArray) : Option Bool :=
  bif decide ((a0_s.size : Int) < 1) then (some false) else (bif decide (36 < (a0_s.size : Int)) then (some false) else (ident_Valid_l29 F a0_s F 0))
def curtail_check (F : Nat) (a0_c : SCurtail) (a1_feeders : Int) : Option Int :=
  (ident_Valid F a0_c.Name).bind fun c_1 => bif (!c_1) then (some 4) else (bif decide (a0_c.Version < 1) then (some 2) else (bif decide (a0_c.Feeder < 0) then (some 2) else (bif decide (a1_feeders ≤ a0_c.Feeder) then (some 2) else (bif decide (a0_c.Total < 0) then (some 2) else (bif decide (1073741824 < a0_c.Total) then (some 2) else (bif decide (a0_c.Span_From < 0) then (some 2) else (bif decide (a0_c.Span_To < a0_c.Span_From) then (some 2) else (bif decide (268435456 < a0_c.Span_To) then (some 2) else (some 0)))))))))
def curtail_replace (F : Nat) (a0_l : List SCurtail) (a1_i : Int) (a2_c : SCurtail) : Option (List SCurtail) :=
  guard ((0 : Int) ≤ ((a0_l).length : Int) ∧ ((64 : Nat) : Int) * (((a0_l).length : Int)) ≤ 281474976710656 ∧ (((a0_l).length : Int) : Int) ≤ 281474976710656) (guard ((0 : Int) ≤ a1_i ∧ a1_i < ((copyL (List.replicate (((a0_l).length : Int)).toNat dSCurtail) 0 ((List.replicate (((a0_l).length : Int)).toNat dSCurtail).length) a0_l).length : Int)) (some ((copyL (List.replicate (((a0_l).length : Int)).toNat dSCurtail) 0 ((List.replicate (((a0_l).length : Int)).toNat dSCurtail).length) a0_l).set a1_i.toNat a2_c)))
def curtail_insert (F : Nat) (a0_l : List SCurtail) (a1_i : Int) (a2_c : SCurtail) : Option (List SCurtail) :=
  guard ((0 : Int) ≤ IntKind.wrap .i64 (((a0_l).length : Int) + 1) ∧ ((64 : Nat) : Int) * (IntKind.wrap .i64 (((a0_l).length : Int) + 1)) ≤ 281474976710656 ∧ (IntKind.wrap .i64 (((a0_l).length : Int) + 1) : Int) ≤ 281474976710656) (guard ((0 : Int) ≤ a1_i ∧ a1_i ≤ ((a0_l).length : Int)) (guard ((0 : Int) ≤ a1_i ∧ a1_i < ((copyL (List.replicate (IntKind.wrap .i64 (((a0_l).length : Int) + 1)).toNat dSCurtail) 0 ((List.replicate (IntKind.wrap .i64 (((a0_l).length : Int) + 1)).toNat dSCurtail).length) (subL a0_l 0 (a1_i : Int).toNat)).length : Int)) (guard ((0 : Int) ≤ IntKind.wrap .i64 (a1_i + 1) ∧ IntKind.wrap .i64 (a1_i + 1) ≤ (((copyL (List.replicate (IntKind.wrap .i64 (((a0_l).length : Int) + 1)).toNat dSCurtail) 0 ((List.replicate (IntKind.wrap .i64 (((a0_l).length : Int) + 1)).toNat dSCurtail).length) (subL a0_l 0 (a1_i : Int).toNat)).set a1_i.toNat a2_c).length : Int)) (guard ((0 : Int) ≤ a1_i ∧ a1_i ≤ ((a0_l).length : Int)) (guard ((IntKind.wrap .i64 (a1_i + 1) : Int).toNat + (((copyL (List.replicate (IntKind.wrap .i64 (((a0_l).length : Int) + 1)).toNat dSCurtail) 0 ((List.replicate (IntKind.wrap .i64 (((a0_l).length : Int) + 1)).toNat dSCurtail).length) (subL a0_l 0 (a1_i : Int).toNat)).set a1_i.toNat a2_c).length - (IntKind.wrap .i64 (a1_i + 1) : Int).toNat) ≤ ((copyL (List.replicate (IntKind.wrap .i64 (((a0_l).length : Int) + 1)).toNat dSCurtail) 0 ((List.replicate (IntKind.wrap .i64 (((a0_l).length : Int) + 1)).toNat dSCurtail).length) (subL a0_l 0 (a1_i : Int).toNat)).set a1_i.toNat a2_c).length) (some (copyL ((copyL (List.replicate (IntKind.wrap .i64 (((a0_l).length : Int) + 1)).toNat dSCurtail) 0 ((List.replicate (IntKind.wrap .i64 (((a0_l).length : Int) + 1)).toNat dSCurtail).length) (subL a0_l 0 (a1_i : Int).toNat)).set a1_i.toNat a2_c) ((IntKind.wrap .i64 (a1_i + 1) : Int).toNat) (((copyL (List.replicate (IntKind.wrap .i64 (((a0_l).length : Int) + 1)).toNat dSCurtail) 0 ((List.replicate (IntKind.wrap .i64 (((a0_l).length : Int) + 1)).toNat dSCurtail).length) (subL a0_l 0 (a1_i : Int).toNat)).set a1_i.toNat a2_c).length - (IntKind.wrap .i64 (a1_i + 1) : Int).toNat) (subL a0_l (a1_i : Int).toNat (a0_l).length))))))))
def curtail_Put_p18 (F : Nat) (a0_l : List SCurtail) (a1_c : SCurtail) (i_4 : Int) (t43_5 : Bool) : Option ((List SCurtail) × Int) :=
  bif t43_5 then (guard ((0 : Int) ≤ i_4 ∧ i_4 < ((a0_l).length : Int)) (bif decide (a1_c.Version < (a0_l.getD i_4.toNat dSCurtail).Version) then (some ((a0_l, 11))) else (guard ((0 : Int) ≤ i_4 ∧ i_4 < ((a0_l).length : Int)) (bif decide ((a0_l.getD i_4.toNat dSCurtail).Version < a1_c.Version) then ((curtail_replace F a0_l i_4 a1_c).bind fun c_11 => some ((c_11, 0))) else (guard ((0 : Int) ≤ i_4 ∧ i_4 < ((a0_l).length : Int)) (bif (xor true (sEq a1_c.Name ((a0_l.getD i_4.toNat dSCurtail).Name) && (decide (a1_c.Version = (a0_l.getD i_4.toNat dSCurtail).Version) && (decide (a1_c.Feeder = (a0_l.getD i_4.toNat dSCurtail).Feeder) && (decide (a1_c.Span_From = (a0_l.getD i_4.toNat dSCurtail).Span_From) && (decide (a1_c.Span_To = (a0_l.getD i_4.toNat dSCurtail).Span_To) && (decide (a1_c.Total = (a0_l.getD i_4.toNat dSCurtail).Total) && ((a1_c.Cancelled == (a0_l.getD i_4.toNat dSCurtail).Cancelled) && true)))))))) then (some ((a0_l, 23))) else (some ((a0_l, 0))))))))) else (bif decide (64 ≤ ((a0_l).length : Int)) then (some ((a0_l, 3))) else ((curtail_insert F a0_l i_4 a1_c).bind fun c_16 => some ((c_16, 0))))
def curtail_Put_p21 (F : Nat) (a0_l : List SCurtail) (a1_c : SCurtail) (i_4 : Int) : Option ((List SCurtail) × Int) :=
  bif decide (i_4 < ((a0_l).length : Int)) then (guard ((0 : Int) ≤ i_4 ∧ i_4 < ((a0_l).length : Int)) (curtail_Put_p18 F a0_l a1_c i_4 (sEq ((a0_l.getD i_4.toNat dSCurtail).Name) a1_c.Name))) else (curtail_Put_p18 F a0_l a1_c i_4 false)
def curtail_Put_b29 (F : Nat) (a0_l : List SCurtail) (a1_c : SCurtail) (kl_n_29 : Int → Option ((List SCurtail) × Int)) (i_25 : Int) : Option ((List SCurtail) × Int) :=
  bif decide (i_25 < ((a0_l).length : Int)) then (guard ((0 : Int) ≤ i_25 ∧ i_25 < ((a0_l).length : Int)) (bif sLt ((a0_l.getD i_25.toNat dSCurtail).Name) a1_c.Name then (kl_n_29 (IntKind.wrap .i64 (i_25 + 1))) else (curtail_Put_p21 F a0_l a1_c i_25))) else (curtail_Put_p21 F a0_l a1_c i_25)
def curtail_Put_l29 (F : Nat) (a0_l : List SCurtail) (a1_c : SCurtail) : Nat → Int → Option ((List SCurtail) × Int)
  | 0, _ => none
  | n + 1, i_25 => curtail_Put_b29 F a0_l a1_c (fun i_25 => curtail_Put_l29 F a0_l a1_c n i_25) i_25
def curtail_Put (F : Nat) (a0_l : List SCurtail) (a1_c : SCurtail) : Option ((List SCurtail) × Int) :=
  (curtail_check F a1_c 32).bind fun c_1 => bif (!decide (c_1 = 0)) then (some ((a0_l, c_1))) else (curtail_Put_l29 F a0_l a1_c F 0)
def curtail_Valid (F : Nat) (a0_c : SCurtail) (a1_s : SSite) : Option Int :=
  (curtail_check F a0_c (((a1_s.Feeders).length : Int))).bind fun c_1 => some c_1
def slices_Equal_api_Curtail_api_Curtail_p2  : Option Bool :=
  some true
def slices_Equal_api_Curtail_api_Curtail_b12 (a0_s1 : List SCurtail) (a1_s2 : List SCurtail) (kl_n_12 : Int → Option Bool) (t13_7 : Int) : Option Bool :=
  bif decide (t13_7 < ((a0_s1).length : Int)) then (guard ((0 : Int) ≤ t13_7 ∧ t13_7 < ((a0_s1).length : Int)) (guard ((0 : Int) ≤ t13_7 ∧ t13_7 < ((a1_s2).length : Int)) (bif (xor true (sEq ((a0_s1.getD t13_7.toNat dSCurtail).Name) ((a1_s2.getD t13_7.toNat dSCurtail).Name) && (decide ((a0_s1.getD t13_7.toNat dSCurtail).Version = (a1_s2.getD t13_7.toNat dSCurtail).Version) && (decide ((a0_s1.getD t13_7.toNat dSCurtail).Feeder = (a1_s2.getD t13_7.toNat dSCurtail).Feeder) && (decide ((a0_s1.getD t13_7.toNat dSCurtail).Span_From = (a1_s2.getD t13_7.toNat dSCurtail).Span_From) && (decide ((a0_s1.getD t13_7.toNat dSCurtail).Span_To = (a1_s2.getD t13_7.toNat dSCurtail).Span_To) && (decide ((a0_s1.getD t13_7.toNat dSCurtail).Total = (a1_s2.getD t13_7.toNat dSCurtail).Total) && (((a0_s1.getD t13_7.toNat dSCurtail).Cancelled == (a1_s2.getD t13_7.toNat dSCurtail).Cancelled) && true)))))))) then (some false) else (kl_n_12 (IntKind.wrap .i64 (t13_7 + 1)))))) else (slices_Equal_api_Curtail_api_Curtail_p2)
def slices_Equal_api_Curtail_api_Curtail_l12 (a0_s1 : List SCurtail) (a1_s2 : List SCurtail) : Nat → Int → Option Bool
  | 0, _ => none
  | n + 1, t13_7 => slices_Equal_api_Curtail_api_Curtail_b12 a0_s1 a1_s2 (fun t13_7 => slices_Equal_api_Curtail_api_Curtail_l12 a0_s1 a1_s2 n t13_7) t13_7
def slices_Equal_api_Curtail_api_Curtail (F : Nat) (a0_s1 : List SCurtail) (a1_s2 : List SCurtail) : Option Bool :=
  bif (!decide (((a0_s1).length : Int) = ((a1_s2).length : Int))) then (some false) else (slices_Equal_api_Curtail_api_Curtail_l12 a0_s1 a1_s2 F 0)
def curtail_At_p2 (limit_1 : Int) : Option Int :=
  some limit_1
def curtail_At_p24 (t12_12 : Int) (kl_n_21 : Int → Int → Option Int) (limit_23 : Int) : Option Int :=
  kl_n_21 limit_23 (IntKind.wrap .i64 (t12_12 + 1))
def curtail_At_b21 (a0_l : List SCurtail) (a1_feeder : Int) (a2_t : Int) (kl_n_21 : Int → Int → Option Int) (limit_11 : Int) (t12_12 : Int) : Option Int :=
  bif decide (t12_12 < ((a0_l).length : Int)) then (guard ((0 : Int) ≤ t12_12 ∧ t12_12 < ((a0_l).length : Int)) (bif decide ((a0_l.getD t12_12.toNat dSCurtail).Feeder = a1_feeder) then (bif (!((a0_l.getD t12_12.toNat dSCurtail).Cancelled)) then (bif decide ((a0_l.getD t12_12.toNat dSCurtail).Span_From ≤ a2_t) then (bif decide (a2_t < (a0_l.getD t12_12.toNat dSCurtail).Span_To) then (curtail_At_p24 t12_12 kl_n_21 ((if (a0_l.getD t12_12.toNat dSCurtail).Total < limit_11 then (a0_l.getD t12_12.toNat dSCurtail).Total else limit_11))) else (curtail_At_p24 t12_12 kl_n_21 limit_11)) else (curtail_At_p24 t12_12 kl_n_21 limit_11)) else (curtail_At_p24 t12_12 kl_n_21 limit_11)) else (curtail_At_p24 t12_12 kl_n_21 limit_11))) else (curtail_At_p2 limit_11)
def curtail_At_l21 (a0_l : List SCurtail) (a1_feeder : Int) (a2_t : Int) : Nat → Int → Int → Option Int
  | 0, _, _ => none
  | n + 1, limit_11, t12_12 => curtail_At_b21 a0_l a1_feeder a2_t (fun limit_11 t12_12 => curtail_At_l21 a0_l a1_feeder a2_t n limit_11 t12_12) limit_11 t12_12
def curtail_At (F : Nat) (a0_l : List SCurtail) (a1_feeder : Int) (a2_t : Int) : Option Int :=
  curtail_At_l21 a0_l a1_feeder a2_t F 1073741824 0
def slices_Sort_int_int (F : Nat) (a0_x : List Int) : Option (List Int) :=
  guard (a0_x.length < 4611686018427387904) (some (sortI a0_x))
def slices_Compact_int_int_p2 (a0_s : List Int) : Option (List Int) :=
  some a0_s
def slices_Compact_int_int_p92 (k_46 : Int) (kl_n_90 : Int → Option (List Int)) : Option (List Int) :=
  kl_n_90 (IntKind.wrap .i64 (k_46 + 1))
def slices_Compact_int_int_p102 (k_97 : Int) (o0_98 : List Int) : Option (List Int) :=
  guard ((0 : Int) ≤ k_97 ∧ k_97 ≤ ((o0_98).length : Int)) (guard ((k_97 : Int).toNat + ((o0_98).length - (k_97 : Int).toNat) ≤ (o0_98).length) (guard ((0 : Int) ≤ k_97 ∧ k_97 ≤ ((copyL o0_98 ((k_97 : Int).toNat) ((o0_98).length - (k_97 : Int).toNat) (List.replicate ((o0_98).length - (k_97 : Int).toNat) 0)).length : Int)) (some ((copyL o0_98 ((k_97 : Int).toNat) ((o0_98).length - (k_97 : Int).toNat) (List.replicate ((o0_98).length - (k_97 : Int).toNat) 0)).take (k_97 : Int).toNat))))
def slices_Compact_int_int_p128 (k2_113 : Int) (kl_n_124 : Int → Int → (List Int) → Option (List Int)) (k_126 : Int) (o0_127 : List Int) : Option (List Int) :=
  kl_n_124 k_126 (IntKind.wrap .i64 (k2_113 + 1)) o0_127
def slices_Compact_int_int_b124 (a0_s : List Int) (k_46 : Int) (kl_n_124 : Int → Int → (List Int) → Option (List Int)) (k_112 : Int) (k2_113 : Int) (o0_114 : List Int) : Option (List Int) :=
  bif decide (k2_113 < (((a0_s).length - (k_46 : Int).toNat : Nat) : Int)) then (guard ((0 : Int) ≤ k2_113 ∧ k2_113 < (((a0_s).length - (k_46 : Int).toNat : Nat) : Int) ∧ (k_46 : Int).toNat + k2_113.toNat < (o0_114).length) (guard ((0 : Int) ≤ IntKind.wrap .i64 (k2_113 - 1) ∧ IntKind.wrap .i64 (k2_113 - 1) < (((a0_s).length - (k_46 : Int).toNat : Nat) : Int) ∧ (k_46 : Int).toNat + (IntKind.wrap .i64 (k2_113 - 1)).toNat < (o0_114).length) (bif (!decide (o0_114.getD ((k_46 : Int).toNat + k2_113.toNat) 0 = o0_114.getD ((k_46 : Int).toNat + (IntKind.wrap .i64 (k2_113 - 1)).toNat) 0)) then (guard ((0 : Int) ≤ k2_113 ∧ k2_113 < (((a0_s).length - (k_46 : Int).toNat : Nat) : Int) ∧ (k_46 : Int).toNat + k2_113.toNat < (o0_114).length) (guard ((0 : Int) ≤ k_112 ∧ k_112 < ((o0_114).length : Int)) (slices_Compact_int_int_p128 k2_113 kl_n_124 (IntKind.wrap .i64 (k_112 + 1)) (o0_114.set k_112.toNat (o0_114.getD ((k_46 : Int).toNat + k2_113.toNat) 0))))) else (slices_Compact_int_int_p128 k2_113 kl_n_124 k_112 o0_114)))) else (slices_Compact_int_int_p102 k_112 o0_114)
def slices_Compact_int_int_l124 (a0_s : List Int) (k_46 : Int) : Nat → Int → Int → (List Int) → Option (List Int)
  | 0, _, _, _ => none
  | n + 1, k_112, k2_113, o0_114 => slices_Compact_int_int_b124 a0_s k_46 (fun k_112 k2_113 o0_114 => slices_Compact_int_int_l124 a0_s k_46 n k_112 k2_113 o0_114) k_112 k2_113 o0_114
def slices_Compact_int_int_b90 (F : Nat) (a0_s : List Int) (kl_n_90 : Int → Option (List Int)) (k_46 : Int) : Option (List Int) :=
  bif decide (k_46 < ((a0_s).length : Int)) then (guard ((0 : Int) ≤ k_46 ∧ k_46 < ((a0_s).length : Int)) (guard ((0 : Int) ≤ IntKind.wrap .i64 (k_46 - 1) ∧ IntKind.wrap .i64 (k_46 - 1) < ((a0_s).length : Int)) (bif decide (a0_s.getD k_46.toNat 0 = a0_s.getD ((IntKind.wrap .i64 (k_46 - 1)).toNat) 0) then (guard ((0 : Int) ≤ k_46 ∧ k_46 ≤ ((a0_s).length : Int)) (slices_Compact_int_int_l124 a0_s k_46 F k_46 1 a0_s)) else (slices_Compact_int_int_p92 k_46 kl_n_90)))) else (slices_Compact_int_int_p2 a0_s)
def slices_Compact_int_int_l90 (F : Nat) (a0_s : List Int) : Nat → Int → Option (List Int)
  | 0, _ => none
  | n + 1, k_46 => slices_Compact_int_int_b90 F a0_s (fun k_46 => slices_Compact_int_int_l90 F a0_s n k_46) k_46
def slices_Compact_int_int (F : Nat) (a0_s : List Int) : Option (List Int) :=
  bif decide (((a0_s).length : Int) < 2) then (some a0_s) else (slices_Compact_int_int_l90 F a0_s F 1)
def curtail_differs_p1  : Option Bool :=
  some false
def curtail_differs_p27 (t9_13 : Int) (kl_n_25 : Int → Option Bool) : Option Bool :=
  kl_n_25 (IntKind.wrap .i64 (t9_13 + 1))
def curtail_differs_p34 (F : Nat) (a0_l : List SCurtail) (a1_t : Int) (t9_13 : Int) (kl_n_25 : Int → Option Bool) : Option Bool :=
  (curtail_At F a0_l ((a0_l.getD t9_13.toNat dSCurtail).Feeder) a1_t).bind fun c_29 => (curtail_At F a0_l ((a0_l.getD t9_13.toNat dSCurtail).Feeder) (IntKind.wrap .i64 (a1_t - 1))).bind fun c_31 => bif (!decide (c_29 = c_31)) then (some true) else (curtail_differs_p27 t9_13 kl_n_25)
def curtail_differs_b25 (F : Nat) (a0_l : List SCurtail) (a1_t : Int) (kl_n_25 : Int → Option Bool) (t9_13 : Int) : Option Bool :=
  bif decide (t9_13 < ((a0_l).length : Int)) then (guard ((0 : Int) ≤ t9_13 ∧ t9_13 < ((a0_l).length : Int)) (bif (!decide ((a0_l.getD t9_13.toNat dSCurtail).Span_From = a1_t)) then (bif (!decide ((a0_l.getD t9_13.toNat dSCurtail).Span_To = a1_t)) then (curtail_differs_p27 t9_13 kl_n_25) else (curtail_differs_p34 F a0_l a1_t t9_13 kl_n_25)) else (curtail_differs_p34 F a0_l a1_t t9_13 kl_n_25))) else (curtail_differs_p1)
def curtail_differs_l25 (F : Nat) (a0_l : List SCurtail) (a1_t : Int) : Nat → Int → Option Bool
  | 0, _ => none
  | n + 1, t9_13 => curtail_differs_b25 F a0_l a1_t (fun t9_13 => curtail_differs_l25 F a0_l a1_t n t9_13) t9_13
def curtail_differs (F : Nat) (a0_l : List SCurtail) (a1_t : Int) : Option Bool :=
  curtail_differs_l25 F a0_l a1_t F 0
def curtail_Next_p5  : Option Int :=
  some ((-1))
def curtail_Next_b19 (F : Nat) (a0_l : List SCurtail) (c_6 : List Int) (kl_n_19 : Int → Option Int) (t47_13 : Int) : Option Int :=
  bif decide (t47_13 < ((c_6).length : Int)) then (guard ((0 : Int) ≤ t47_13 ∧ t47_13 < ((c_6).length : Int)) ((curtail_differs F a0_l (c_6.getD t47_13.toNat 0)).bind fun c_22 => bif c_22 then (some (c_6.getD t47_13.toNat 0)) else (kl_n_19 (IntKind.wrap .i64 (t47_13 + 1))))) else (curtail_Next_p5)
def curtail_Next_l19 (F : Nat) (a0_l : List SCurtail) (c_6 : List Int) : Nat → Int → Option Int
  | 0, _ => none
  | n + 1, t47_13 => curtail_Next_b19 F a0_l c_6 (fun t47_13 => curtail_Next_l19 F a0_l c_6 n t47_13) t47_13
def curtail_Next_p25 (F : Nat) (a0_l : List SCurtail) (o0_1 : List Int) : Option Int :=
  (slices_Sort_int_int F o0_1).bind fun c_2 => guard (c_2.length = o0_1.length) ((slices_Compact_int_int F c_2).bind fun c_6 => curtail_Next_l19 F a0_l c_6 F 0)
def curtail_Next_p87 (t14_54 : Int) (kl_n_84 : Int → (List Int) → Option Int) (o0_86 : List Int) : Option Int :=
  kl_n_84 (IntKind.wrap .i64 (t14_54 + 1)) o0_86
def curtail_Next_p108 (t25_96 : Int) (kl_n_105 : Int → (List Int) → Option Int) (o0_107 : List Int) : Option Int :=
  kl_n_105 (IntKind.wrap .i64 (t25_96 + 1)) o0_107
def curtail_Next_b105 (a0_l : List SCurtail) (a1_t : Int) (t14_54 : Int) (kl_n_84 : Int → (List Int) → Option Int) (kl_n_105 : Int → (List Int) → Option Int) (t25_96 : Int) (o0_97 : List Int) : Option Int :=
  bif decide (t25_96 < 2) then (guard ((0 : Int) ≤ t25_96 ∧ t25_96 < 2) (bif (!((a0_l.getD t14_54.toNat dSCurtail).Cancelled)) then (bif decide (a1_t < ([(a0_l.getD t14_54.toNat dSCurtail).Span_From, (a0_l.getD t14_54.toNat dSCurtail).Span_To] : List Int).getD t25_96.toNat 0) then (guard (((o0_97).length + ([([(a0_l.getD t14_54.toNat dSCurtail).Span_From, (a0_l.getD t14_54.toNat dSCurtail).Span_To] : List Int).getD t25_96.toNat 0]).length) * 8 ≤ 140737488355328 ∧ (o0_97).length + ([([(a0_l.getD t14_54.toNat dSCurtail).Span_From, (a0_l.getD t14_54.toNat dSCurtail).Span_To] : List Int).getD t25_96.toNat 0]).length ≤ 140737488355328) (curtail_Next_p108 t25_96 kl_n_105 (o0_97 ++ ([([(a0_l.getD t14_54.toNat dSCurtail).Span_From, (a0_l.getD t14_54.toNat dSCurtail).Span_To] : List Int).getD t25_96.toNat 0])))) else (curtail_Next_p108 t25_96 kl_n_105 o0_97)) else (curtail_Next_p108 t25_96 kl_n_105 o0_97))) else (curtail_Next_p87 t14_54 kl_n_84 o0_97)
def curtail_Next_l105 (a0_l : List SCurtail) (a1_t : Int) (t14_54 : Int) (kl_n_84 : Int → (List Int) → Option Int) : Nat → Int → (List Int) → Option Int
  | 0, _, _ => none
  | n + 1, t25_96, o0_97 => curtail_Next_b105 a0_l a1_t t14_54 kl_n_84 (fun t25_96 o0_97 => curtail_Next_l105 a0_l a1_t t14_54 kl_n_84 n t25_96 o0_97) t25_96 o0_97
def curtail_Next_b84 (F : Nat) (a0_l : List SCurtail) (a1_t : Int) (kl_n_84 : Int → (List Int) → Option Int) (t14_54 : Int) (o0_55 : List Int) : Option Int :=
  bif decide (t14_54 < ((a0_l).length : Int)) then (guard ((0 : Int) ≤ t14_54 ∧ t14_54 < ((a0_l).length : Int)) (curtail_Next_l105 a0_l a1_t t14_54 kl_n_84 F 0 o0_55)) else (curtail_Next_p25 F a0_l o0_55)
def curtail_Next_l84 (F : Nat) (a0_l : List SCurtail) (a1_t : Int) : Nat → Int → (List Int) → Option Int
  | 0, _, _ => none
  | n + 1, t14_54, o0_55 => curtail_Next_b84 F a0_l a1_t (fun t14_54 o0_55 => curtail_Next_l84 F a0_l a1_t n t14_54 o0_55) t14_54 o0_55
def curtail_Next (F : Nat) (a0_l : List SCurtail) (a1_t : Int) : Option Int :=
  curtail_Next_l84 F a0_l a1_t F 0 (([] : List Int))
def chargenetlaw13_exampleHolds (F : Nat)  : Option Bool :=
  guard ((0 : Int) ≤ 1 ∧ ((48 : Nat) : Int) * 1 ≤ 281474976710656 ∧ (1 : Int) ≤ 281474976710656) ((curtail_Put F (([] : List SCurtail)) (SCurtail.mk (ByteArray.mk #[102]) 1 0 15 30 3000 false)).bind fun c_2 => (curtail_Put F c_2.1 (SCurtail.mk (ByteArray.mk #[101]) 2 0 10 20 5000 false)).bind fun c_4 => (curtail_Put F c_4.1 (SCurtail.mk (ByteArray.mk #[101]) 1 0 10 20 5000 false)).bind fun c_6 => (curtail_Put F c_4.1 (SCurtail.mk (ByteArray.mk #[101]) 2 0 10 20 1 false)).bind fun c_8 => (curtail_Valid F (SCurtail.mk (ByteArray.mk #[101]) 2 0 10 20 5000 false) (SSite.mk ByteArray.empty (List.replicate (1 : Int).toNat dSFeeder) (([] : List SPoint)))).bind fun c_10 => bif decide (c_10 = 0) then ((curtail_Valid F (SCurtail.mk (ByteArray.mk #[101]) 2 1 10 20 5000 false) (SSite.mk ByteArray.empty (List.replicate (1 : Int).toNat dSFeeder) (([] : List SPoint)))).bind fun c_13 => bif decide (c_13 = 2) then (bif decide (c_2.2 = 0) then (bif decide (c_4.2 = 0) then ((slices_Equal_api_Curtail_api_Curtail F c_4.1 ([SCurtail.mk (ByteArray.mk #[101]) 2 0 10 20 5000 false, SCurtail.mk (ByteArray.mk #[102]) 1 0 15 30 3000 false])).bind fun c_18 => bif c_18 then (bif decide (c_6.2 = 11) then (bif decide (c_8.2 = 23) then ((curtail_At F c_4.1 0 12).bind fun c_23 => bif decide (c_23 = 5000) then ((curtail_At F c_4.1 0 15).bind fun c_26 => bif decide (c_26 = 3000) then ((curtail_At F c_4.1 0 30).bind fun c_29 => bif decide (c_29 = 1073741824) then ((curtail_At F c_4.1 1 15).bind fun c_32 => bif decide (c_32 = 1073741824) then ((curtail_Next F c_4.1 0).bind fun c_35 => bif decide (c_35 = 10) then ((curtail_Next F c_4.1 10).bind fun c_38 => bif decide (c_38 = 15) then ((curtail_Next F c_4.1 15).bind fun c_41 => bif decide (c_41 = 30) then ((curtail_Next F c_4.1 30).bind fun c_44 => some (decide (c_44 = (-1)))) else (some false)) else (some false)) else (some false)) else (some false)) else (some false)) else (some false)) else (some false)) else (some false)) else (some false)) else (some false)) else (some false)) else (some false)) else (some false)) else (some false))
def chargenetref01_Capital_p1 (a0_c : Int) : Option Int :=
  some a0_c
def chargenetref01_Capital (F : Nat) (a0_c : Int) : Option Int :=
  bif decide (97 ≤ a0_c) then (bif decide (a0_c ≤ 122) then (some (IntKind.wrap .u8 (a0_c - 32))) else (chargenetref01_Capital_p1 a0_c)) else (chargenetref01_Capital_p1 a0_c)
def chargenetref01_Value_p1  : Option Int :=
  some ((-1))
def chargenetref01_Value_b13 (F : Nat) (a0_c : Int) (kl_n_13 : Int → Option Int) (v_7 : Int) : Option Int :=
  bif decide (v_7 < 36) then (guard ((0 : Int) ≤ v_7 ∧ v_7 < ((ByteArray.mk #[48, 49, 50, 51, 52, 53, 54, 55, 56, 57, 65, 66, 67, 68, 69, 70, 71, 72, 73, 74, 75, 76, 77, 78, 79, 80, 81, 82, 83, 84, 85, 86, 87, 88, 89, 90]).size : Int)) ((chargenetref01_Capital F a0_c).bind fun c_16 => bif decide (sGet (ByteArray.mk #[48, 49, 50, 51, 52, 53, 54, 55, 56, 57, 65, 66, 67, 68, 69, 70, 71, 72, 73, 74, 75, 76, 77, 78, 79, 80, 81, 82, 83, 84, 85, 86, 87, 88, 89, 90]) v_7.toNat = c_16) then (some v_7) else (kl_n_13 (IntKind.wrap .i64 (v_7 + 1))))) else (chargenetref01_Value_p1)
def chargenetref01_Value_l13 (F : Nat) (a0_c : Int) : Nat → Int → Option Int
  | 0, _ => none
  | n + 1, v_7 => chargenetref01_Value_b13 F a0_c (fun v_7 => chargenetref01_Value_l13 F a0_c n v_7) v_7
def chargenetref01_Value (F : Nat) (a0_c : Int) : Option Int :=
  chargenetref01_Value_l13 F a0_c F 0
def chargenetref01_Valid_p3  : Option Bool :=
  some true
def chargenetref01_Valid_p29 (i_15 : Int) (kl_n_27 : Int → Option Bool) : Option Bool :=
  kl_n_27 (IntKind.wrap .i64 (i_15 + 1))
def chargenetref01_Valid_b27 (F : Nat) (a0_s : ByteArray) (kl_n_27 : Int → Option Bool) (i_15 : Int) : Option Bool :=
  bif decide (i_15 < (a0_s.size : Int)) then (guard ((0 : Int) ≤ i_15 ∧ i_15 < (a0_s.size : Int)) ((chargenetref01_Value F (sGet a0_s i_15.toNat)).bind fun c_31 => bif decide (c_31 < 0) then (bif (!decide (sGet a0_s i_15.toNat = 45)) then (bif (!decide (sGet a0_s i_15.toNat = 95)) then (bif (!decide (sGet a0_s i_15.toNat = 46)) then (bif (!decide (sGet a0_s i_15.toNat = 58)) then (bif (!decide (sGet a0_s i_15.toNat = 42)) then (some false) else (chargenetref01_Valid_p29 i_15 kl_n_27)) else (chargenetref01_Valid_p29 i_15 kl_n_27)) else (chargenetref01_Valid_p29 i_15 kl_n_27)) else (chargenetref01_Valid_p29 i_15 kl_n_27)) else (chargenetref01_Valid_p29 i_15 kl_n_27)) else (chargenetref01_Valid_p29 i_15 kl_n_27))) else (chargenetref01_Valid_p3)
def chargenetref01_Valid_l27 (F : Nat) (a0_s : ByteArray) : Nat → Int → Option Bool
  | 0, _ => none
  | n + 1, i_15 => chargenetref01_Valid_b27 F a0_s (fun i_15 => chargenetref01_Valid_l27 F a0_s n i_15) i_15
def chargenetref01_Valid (F : Nat) (a0_s : ByteArray) : Option Bool :=
  bif decide ((a0_s.size : Int) < 1) then (some false) else (bif decide (36 < (a0_s.size : Int)) then (some false) else (chargenetref01_Valid_l27 F a0_s F 0))
def chargenetref13_right_p11 (a0_c : SCurtail) (a1_feeders : Int) (span_4 : Bool) : Option Int :=
  bif decide (a0_c.Version < 1) then (some 2) else (bif decide (a0_c.Feeder < 0) then (some 2) else (bif decide (a1_feeders ≤ a0_c.Feeder) then (some 2) else (bif (!span_4) then (some 2) else (bif decide (a0_c.Total < 0) then (some 2) else (bif decide (1073741824 < a0_c.Total) then (some 2) else (some 0))))))
def chargenetref13_right (F : Nat) (a0_c : SCurtail) (a1_feeders : Int) : Option Int :=
  (chargenetref01_Valid F a0_c.Name).bind fun c_1 => bif (!c_1) then (some 4) else (bif decide (0 ≤ a0_c.Span_From) then (bif decide (a0_c.Span_From ≤ a0_c.Span_To) then (chargenetref13_right_p11 a0_c a1_feeders (decide (a0_c.Span_To ≤ 268435456))) else (chargenetref13_right_p11 a0_c a1_feeders false)) else (chargenetref13_right_p11 a0_c a1_feeders false))
def chargenetref13_Valid (F : Nat) (a0_c : SCurtail) (a1_s : SSite) : Option Int :=
  (chargenetref13_right F (SCurtail.mk a0_c.Name a0_c.Version a0_c.Feeder a0_c.Span_From a0_c.Span_To a0_c.Total a0_c.Cancelled) (((a1_s.Feeders).length : Int))).bind fun c_1 => some c_1
def chargenetlaw13_CurtailValid (F : Nat) (a0_c : SCurtail) (a1_feeders : Int) : Option Bool :=
  bif decide (4096 < (a0_c.Name.size : Int)) then ((chargenetlaw13_exampleHolds F).bind fun c_2 => some c_2) else (guard ((0 : Int) ≤ Int.tmod (IntKind.wrap .i64 a1_feeders) 41 ∧ ((48 : Nat) : Int) * (Int.tmod (IntKind.wrap .i64 a1_feeders) 41) ≤ 281474976710656 ∧ (Int.tmod (IntKind.wrap .i64 a1_feeders) 41 : Int) ≤ 281474976710656) ((curtail_Valid F a0_c (SSite.mk ByteArray.empty (List.replicate (Int.tmod (IntKind.wrap .i64 a1_feeders) 41).toNat dSFeeder) (([] : List SPoint)))).bind fun c_5 => (chargenetref13_Valid F (SCurtail.mk a0_c.Name a0_c.Version a0_c.Feeder a0_c.Span_From a0_c.Span_To a0_c.Total a0_c.Cancelled) (SSite.mk ByteArray.empty (List.replicate (Int.tmod (IntKind.wrap .i64 a1_feeders) 41).toNat dSFeeder) (([] : List SPoint)))).bind fun c_7 => bif decide (c_5 = c_7) then ((chargenetlaw13_exampleHolds F).bind fun c_10 => some c_10) else (some false)))
def chargenetref13_Put_p8 (a0_l : List SCurtail) (o0_6 : List SCurtail) : Option ((List SCurtail) × Int) :=
  bif decide (64 < ((o0_6).length : Int)) then (some ((a0_l, 3))) else (some ((o0_6, 0)))
def chargenetref13_Put_p11 (a0_l : List SCurtail) (a1_c : SCurtail) (done_4 : Bool) (o1_5 : List SCurtail) : Option ((List SCurtail) × Int) :=
  bif (!done_4) then (guard (((o1_5).length + ([a1_c]).length) * 64 ≤ 140737488355328 ∧ (o1_5).length + ([a1_c]).length ≤ 140737488355328) (chargenetref13_Put_p8 a0_l (o1_5 ++ ([a1_c])))) else (chargenetref13_Put_p8 a0_l o1_5)
def chargenetref13_Put_p64 (i_35 : Int) (kl_n_60 : Bool → Int → (List SCurtail) → Option ((List SCurtail) × Int)) (done_62 : Bool) (o1_63 : List SCurtail) : Option ((List SCurtail) × Int) :=
  kl_n_60 done_62 (IntKind.wrap .i64 (i_35 + 1)) o1_63
def chargenetref13_Put_p70 (a1_c : SCurtail) (i_35 : Int) (o1_36 : List SCurtail) (kl_n_60 : Bool → Int → (List SCurtail) → Option ((List SCurtail) × Int)) : Option ((List SCurtail) × Int) :=
  guard (((o1_36).length + ([a1_c]).length) * 64 ≤ 140737488355328 ∧ (o1_36).length + ([a1_c]).length ≤ 140737488355328) (chargenetref13_Put_p64 i_35 kl_n_60 true (o1_36 ++ ([a1_c])))
def chargenetref13_Put_p79 (a0_l : List SCurtail) (i_35 : Int) (kl_n_60 : Bool → Int → (List SCurtail) → Option ((List SCurtail) × Int)) (done_75 : Bool) (o1_76 : List SCurtail) : Option ((List SCurtail) × Int) :=
  guard ((0 : Int) ≤ i_35 ∧ i_35 < ((a0_l).length : Int)) (guard (((o1_76).length + ([a0_l.getD i_35.toNat dSCurtail]).length) * 64 ≤ 140737488355328 ∧ (o1_76).length + ([a0_l.getD i_35.toNat dSCurtail]).length ≤ 140737488355328) (chargenetref13_Put_p64 i_35 kl_n_60 done_75 (o1_76 ++ ([a0_l.getD i_35.toNat dSCurtail]))))
def chargenetref13_Put_b60 (a0_l : List SCurtail) (a1_c : SCurtail) (kl_n_60 : Bool → Int → (List SCurtail) → Option ((List SCurtail) × Int)) (done_34 : Bool) (i_35 : Int) (o1_36 : List SCurtail) : Option ((List SCurtail) × Int) :=
  bif decide (i_35 < ((a0_l).length : Int)) then (guard ((0 : Int) ≤ i_35 ∧ i_35 < ((a0_l).length : Int)) (bif sEq ((a0_l.getD i_35.toNat dSCurtail).Name) a1_c.Name then (guard ((0 : Int) ≤ i_35 ∧ i_35 < ((a0_l).length : Int)) (bif decide (a1_c.Version < (a0_l.getD i_35.toNat dSCurtail).Version) then (some ((a0_l, 11))) else (guard ((0 : Int) ≤ i_35 ∧ i_35 < ((a0_l).length : Int)) (bif decide (a1_c.Version = (a0_l.getD i_35.toNat dSCurtail).Version) then (guard ((0 : Int) ≤ i_35 ∧ i_35 < ((a0_l).length : Int)) (bif (xor true (sEq a1_c.Name ((a0_l.getD i_35.toNat dSCurtail).Name) && (decide (a1_c.Version = (a0_l.getD i_35.toNat dSCurtail).Version) && (decide (a1_c.Feeder = (a0_l.getD i_35.toNat dSCurtail).Feeder) && (decide (a1_c.Span_From = (a0_l.getD i_35.toNat dSCurtail).Span_From) && (decide (a1_c.Span_To = (a0_l.getD i_35.toNat dSCurtail).Span_To) && (decide (a1_c.Total = (a0_l.getD i_35.toNat dSCurtail).Total) && ((a1_c.Cancelled == (a0_l.getD i_35.toNat dSCurtail).Cancelled) && true)))))))) then (some ((a0_l, 23))) else (chargenetref13_Put_p70 a1_c i_35 o1_36 kl_n_60))) else (chargenetref13_Put_p70 a1_c i_35 o1_36 kl_n_60))))) else (bif (!done_34) then (guard ((0 : Int) ≤ i_35 ∧ i_35 < ((a0_l).length : Int)) (bif (!(sLt ((a0_l.getD i_35.toNat dSCurtail).Name) a1_c.Name || sEq ((a0_l.getD i_35.toNat dSCurtail).Name) a1_c.Name)) then (guard (((o1_36).length + ([a1_c]).length) * 64 ≤ 140737488355328 ∧ (o1_36).length + ([a1_c]).length ≤ 140737488355328) (chargenetref13_Put_p79 a0_l i_35 kl_n_60 true (o1_36 ++ ([a1_c])))) else (chargenetref13_Put_p79 a0_l i_35 kl_n_60 done_34 o1_36))) else (chargenetref13_Put_p79 a0_l i_35 kl_n_60 done_34 o1_36)))) else (chargenetref13_Put_p11 a0_l a1_c done_34 o1_36)
def chargenetref13_Put_l60 (a0_l : List SCurtail) (a1_c : SCurtail) : Nat → Bool → Int → (List SCurtail) → Option ((List SCurtail) × Int)
  | 0, _, _, _ => none
  | n + 1, done_34, i_35, o1_36 => chargenetref13_Put_b60 a0_l a1_c (fun done_34 i_35 o1_36 => chargenetref13_Put_l60 a0_l a1_c n done_34 i_35 o1_36) done_34 i_35 o1_36
def chargenetref13_Put (F : Nat) (a0_l : List SCurtail) (a1_c : SCurtail) : Option ((List SCurtail) × Int) :=
  (chargenetref13_right F a1_c 32).bind fun c_1 => bif (!decide (c_1 = 0)) then (some ((a0_l, c_1))) else (chargenetref13_Put_l60 a0_l a1_c F false 0 (([] : List SCurtail)))
def chargenetlaw13_CurtailPut_p6 (F : Nat) : Option Bool :=
  (chargenetlaw13_exampleHolds F).bind fun c_4 => some c_4
def chargenetlaw13_CurtailPut_b32 (F : Nat) (a0_l : List SCurtail) (kl_n_32 : (List SCurtail) → (List SCurtail) → Int → Option Bool) (a_18 : List SCurtail) (b_19 : List SCurtail) (t14_20 : Int) : Option Bool :=
  bif decide (t14_20 < ((a0_l).length : Int)) then (guard ((0 : Int) ≤ t14_20 ∧ t14_20 < ((a0_l).length : Int)) ((curtail_Put F a_18 (a0_l.getD t14_20.toNat dSCurtail)).bind fun c_35 => guard ((0 : Int) ≤ t14_20 ∧ t14_20 < ((a0_l).length : Int)) ((chargenetref13_Put F b_19 (a0_l.getD t14_20.toNat dSCurtail)).bind fun c_38 => bif (!decide (c_35.2 = c_38.2)) then (some false) else ((slices_Equal_api_Curtail_api_Curtail F c_35.1 c_38.1).bind fun c_41 => bif (!c_41) then (some false) else (kl_n_32 c_35.1 c_38.1 (IntKind.wrap .i64 (t14_20 + 1))))))) else (chargenetlaw13_CurtailPut_p6 F)
def chargenetlaw13_CurtailPut_l32 (F : Nat) (a0_l : List SCurtail) : Nat → (List SCurtail) → (List SCurtail) → Int → Option Bool
  | 0, _, _, _ => none
  | n + 1, a_18, b_19, t14_20 => chargenetlaw13_CurtailPut_b32 F a0_l (fun a_18 b_19 t14_20 => chargenetlaw13_CurtailPut_l32 F a0_l n a_18 b_19 t14_20) a_18 b_19 t14_20
def chargenetlaw13_CurtailPut (F : Nat) (a0_l : List SCurtail) : Option Bool :=
  bif decide (100 < ((a0_l).length : Int)) then ((chargenetlaw13_exampleHolds F).bind fun c_2 => some c_2) else (chargenetlaw13_CurtailPut_l32 F a0_l F ([]) ([]) 0)
def chargenetlaw13_build_p2 (out_1 : List SCurtail) : Option ((List SCurtail) × Bool) :=
  some ((out_1, true))
def chargenetlaw13_build_p28 (t10_13 : Int) (kl_n_23 : (List SCurtail) → Int → Option ((List SCurtail) × Bool)) (c_26 : (List SCurtail) × Int) : Option ((List SCurtail) × Bool) :=
  kl_n_23 c_26.1 (IntKind.wrap .i64 (t10_13 + 1))
def chargenetlaw13_build_b23 (F : Nat) (a0_l : List SCurtail) (kl_n_23 : (List SCurtail) → Int → Option ((List SCurtail) × Bool)) (out_12 : List SCurtail) (t10_13 : Int) : Option ((List SCurtail) × Bool) :=
  bif decide (t10_13 < ((a0_l).length : Int)) then (guard ((0 : Int) ≤ t10_13 ∧ t10_13 < ((a0_l).length : Int)) ((curtail_Put F out_12 (a0_l.getD t10_13.toNat dSCurtail)).bind fun c_26 => bif (!decide (c_26.2 = 0)) then ((slices_Equal_api_Curtail_api_Curtail F c_26.1 out_12).bind fun c_30 => bif (!c_30) then (some (([], false))) else (chargenetlaw13_build_p28 t10_13 kl_n_23 c_26)) else (chargenetlaw13_build_p28 t10_13 kl_n_23 c_26))) else (chargenetlaw13_build_p2 out_12)
def chargenetlaw13_build_l23 (F : Nat) (a0_l : List SCurtail) : Nat → (List SCurtail) → Int → Option ((List SCurtail) × Bool)
  | 0, _, _ => none
  | n + 1, out_12, t10_13 => chargenetlaw13_build_b23 F a0_l (fun out_12 t10_13 => chargenetlaw13_build_l23 F a0_l n out_12 t10_13) out_12 t10_13
def chargenetlaw13_build (F : Nat) (a0_l : List SCurtail) : Option ((List SCurtail) × Bool) :=
  chargenetlaw13_build_l23 F a0_l F ([]) 0
def chargenetref13_At_p2 (least_1 : Int) : Option Int :=
  some least_1
def chargenetref13_At_p24 (i_12 : Int) (kl_n_21 : Int → Int → Option Int) (least_23 : Int) : Option Int :=
  kl_n_21 least_23 (IntKind.wrap .i64 (i_12 + 1))
def chargenetref13_At_b21 (a0_l : List SCurtail) (a1_feeder : Int) (a2_t : Int) (kl_n_21 : Int → Int → Option Int) (least_11 : Int) (i_12 : Int) : Option Int :=
  bif decide (i_12 < ((a0_l).length : Int)) then (guard ((0 : Int) ≤ i_12 ∧ i_12 < ((a0_l).length : Int)) (bif decide ((a0_l.getD i_12.toNat dSCurtail).Feeder = a1_feeder) then (bif (!((a0_l.getD i_12.toNat dSCurtail).Cancelled)) then (bif decide ((a0_l.getD i_12.toNat dSCurtail).Span_From ≤ a2_t) then (bif decide (a2_t < (a0_l.getD i_12.toNat dSCurtail).Span_To) then (chargenetref13_At_p24 i_12 kl_n_21 ((if (a0_l.getD i_12.toNat dSCurtail).Total < least_11 then (a0_l.getD i_12.toNat dSCurtail).Total else least_11))) else (chargenetref13_At_p24 i_12 kl_n_21 least_11)) else (chargenetref13_At_p24 i_12 kl_n_21 least_11)) else (chargenetref13_At_p24 i_12 kl_n_21 least_11)) else (chargenetref13_At_p24 i_12 kl_n_21 least_11))) else (chargenetref13_At_p2 least_11)
def chargenetref13_At_l21 (a0_l : List SCurtail) (a1_feeder : Int) (a2_t : Int) : Nat → Int → Int → Option Int
  | 0, _, _ => none
  | n + 1, least_11, i_12 => chargenetref13_At_b21 a0_l a1_feeder a2_t (fun least_11 i_12 => chargenetref13_At_l21 a0_l a1_feeder a2_t n least_11 i_12) least_11 i_12
def chargenetref13_At (F : Nat) (a0_l : List SCurtail) (a1_feeder : Int) (a2_t : Int) : Option Int :=
  chargenetref13_At_l21 a0_l a1_feeder a2_t F 1073741824 0
def chargenetref13_changes_p1  : Option Bool :=
  some false
def chargenetref13_changes_b15 (F : Nat) (a0_l : List SCurtail) (a1_t : Int) (kl_n_15 : Int → Option Bool) (f_8 : Int) : Option Bool :=
  bif decide (f_8 < 32) then ((chargenetref13_At F a0_l f_8 a1_t).bind fun c_17 => (chargenetref13_At F a0_l f_8 (IntKind.wrap .i64 (a1_t - 1))).bind fun c_19 => bif (!decide (c_17 = c_19)) then (some true) else (kl_n_15 (IntKind.wrap .i64 (f_8 + 1)))) else (chargenetref13_changes_p1)
def chargenetref13_changes_l15 (F : Nat) (a0_l : List SCurtail) (a1_t : Int) : Nat → Int → Option Bool
  | 0, _ => none
  | n + 1, f_8 => chargenetref13_changes_b15 F a0_l a1_t (fun f_8 => chargenetref13_changes_l15 F a0_l a1_t n f_8) f_8
def chargenetref13_changes (F : Nat) (a0_l : List SCurtail) (a1_t : Int) : Option Bool :=
  chargenetref13_changes_l15 F a0_l a1_t F 0
def chargenetref13_Next_p2 (best_1 : Int) : Option Int :=
  some best_1
def chargenetref13_Next_p42 (i_21 : Int) (kl_n_39 : Int → Int → Option Int) (best_41 : Int) : Option Int :=
  kl_n_39 best_41 (IntKind.wrap .i64 (i_21 + 1))
def chargenetref13_Next_p54 (F : Nat) (a0_l : List SCurtail) (a1_t : Int) (best_20 : Int) (i_21 : Int) (kl_n_39 : Int → Int → Option Int) (at_44 : Int) : Option Int :=
  bif decide (a1_t < at_44) then (bif decide (best_20 < 0) then ((chargenetref13_changes F a0_l at_44).bind fun c_47 => bif c_47 then (chargenetref13_Next_p42 i_21 kl_n_39 at_44) else (chargenetref13_Next_p42 i_21 kl_n_39 best_20)) else (bif decide (at_44 < best_20) then ((chargenetref13_changes F a0_l at_44).bind fun c_51 => bif c_51 then (chargenetref13_Next_p42 i_21 kl_n_39 at_44) else (chargenetref13_Next_p42 i_21 kl_n_39 best_20)) else (chargenetref13_Next_p42 i_21 kl_n_39 best_20))) else (chargenetref13_Next_p42 i_21 kl_n_39 best_20)
def chargenetref13_Next_b39 (F : Nat) (a0_l : List SCurtail) (a1_t : Int) (kl_n_39 : Int → Int → Option Int) (best_20 : Int) (i_21 : Int) : Option Int :=
  bif decide (i_21 < IntKind.wrap .i64 (2 * ((a0_l).length : Int))) then (guard ((0 : Int) ≤ IntKind.wrap .i64 (Int.tdiv i_21 2) ∧ IntKind.wrap .i64 (Int.tdiv i_21 2) < ((a0_l).length : Int)) (bif decide (Int.tmod i_21 2 = 1) then (guard ((0 : Int) ≤ IntKind.wrap .i64 (Int.tdiv i_21 2) ∧ IntKind.wrap .i64 (Int.tdiv i_21 2) < ((a0_l).length : Int)) (chargenetref13_Next_p54 F a0_l a1_t best_20 i_21 kl_n_39 ((a0_l.getD (IntKind.wrap .i64 (Int.tdiv i_21 2)).toNat dSCurtail).Span_To))) else (chargenetref13_Next_p54 F a0_l a1_t best_20 i_21 kl_n_39 ((a0_l.getD (IntKind.wrap .i64 (Int.tdiv i_21 2)).toNat dSCurtail).Span_From)))) else (chargenetref13_Next_p2 best_20)
def chargenetref13_Next_l39 (F : Nat) (a0_l : List SCurtail) (a1_t : Int) : Nat → Int → Int → Option Int
  | 0, _, _ => none
  | n + 1, best_20, i_21 => chargenetref13_Next_b39 F a0_l a1_t (fun best_20 i_21 => chargenetref13_Next_l39 F a0_l a1_t n best_20 i_21) best_20 i_21
def chargenetref13_Next (F : Nat) (a0_l : List SCurtail) (a1_t : Int) : Option Int :=
  chargenetref13_Next_l39 F a0_l a1_t F ((-1)) 0
def chargenetlaw13_CurtailAt (F : Nat) (a0_l : List SCurtail) (a1_feeder : Int) (a2_t : Int) : Option Bool :=
  bif decide (100 < ((a0_l).length : Int)) then ((chargenetlaw13_exampleHolds F).bind fun c_2 => some c_2) else ((chargenetlaw13_build F a0_l).bind fun c_4 => bif c_4.2 then ((curtail_At F c_4.1 a1_feeder a2_t).bind fun c_7 => (chargenetref13_At F c_4.1 a1_feeder a2_t).bind fun c_9 => bif decide (c_7 = c_9) then ((curtail_Next F c_4.1 a2_t).bind fun c_12 => (chargenetref13_Next F c_4.1 a2_t).bind fun c_14 => bif decide (c_12 = c_14) then ((chargenetlaw13_exampleHolds F).bind fun c_17 => some c_17) else (some false)) else (some false)) else (some false))
def slices_Clone_api_Curtail_api_Curtail_own (F : Nat) (a0_s : List SCurtail) : Option (List SCurtail) :=
  guard (((([] : List SCurtail)).length + (a0_s).length) * 64 ≤ 140737488355328 ∧ (([] : List SCurtail)).length + (a0_s).length ≤ 140737488355328) (some ((([] : List SCurtail)) ++ a0_s))
def chargenetlaw13_CurtailOrder_p19 (F : Nat) (a0_l : List SCurtail) (o0_6 : List SCurtail) : Option Bool :=
  (chargenetlaw13_build F a0_l).bind fun c_7 => (chargenetlaw13_build F o0_6).bind fun c_10 => bif c_7.2 then (bif c_10.2 then ((slices_Equal_api_Curtail_api_Curtail F c_7.1 c_10.1).bind fun c_14 => bif c_14 then ((chargenetlaw13_exampleHolds F).bind fun c_17 => some c_17) else (some false)) else (some false)) else (some false)
def chargenetlaw13_CurtailOrder_p45 (t58_30 : Int) (kl_n_42 : Int → (List SCurtail) → Option Bool) (o0_44 : List SCurtail) : Option Bool :=
  kl_n_42 (IntKind.wrap .i64 (t58_30 + 1)) o0_44
def chargenetlaw13_CurtailOrder_b42 (F : Nat) (a0_l : List SCurtail) (a1_order : List Int) (c_4 : List SCurtail) (kl_n_42 : Int → (List SCurtail) → Option Bool) (t58_30 : Int) (o0_31 : List SCurtail) : Option Bool :=
  bif decide (t58_30 < ((c_4).length : Int)) then (bif decide (t58_30 < ((a1_order).length : Int)) then (guard ((0 : Int) ≤ t58_30 ∧ t58_30 < ((a1_order).length : Int)) (guard (((o0_31).length : Int) ≠ 0) (guard ((0 : Int) ≤ Int.tmod (IntKind.wrap .i64 (a1_order.getD t58_30.toNat 0)) (((o0_31).length : Int)) ∧ Int.tmod (IntKind.wrap .i64 (a1_order.getD t58_30.toNat 0)) (((o0_31).length : Int)) < ((o0_31).length : Int)) (guard ((0 : Int) ≤ t58_30 ∧ t58_30 < ((o0_31).length : Int)) (guard ((0 : Int) ≤ t58_30 ∧ t58_30 < ((o0_31).length : Int)) (guard ((0 : Int) ≤ Int.tmod (IntKind.wrap .i64 (a1_order.getD t58_30.toNat 0)) (((o0_31).length : Int)) ∧ Int.tmod (IntKind.wrap .i64 (a1_order.getD t58_30.toNat 0)) (((o0_31).length : Int)) < ((o0_31.set t58_30.toNat (o0_31.getD ((Int.tmod (IntKind.wrap .i64 (a1_order.getD t58_30.toNat 0)) (((o0_31).length : Int))).toNat) dSCurtail)).length : Int)) (chargenetlaw13_CurtailOrder_p45 t58_30 kl_n_42 ((o0_31.set t58_30.toNat (o0_31.getD ((Int.tmod (IntKind.wrap .i64 (a1_order.getD t58_30.toNat 0)) (((o0_31).length : Int))).toNat) dSCurtail)).set ((Int.tmod (IntKind.wrap .i64 (a1_order.getD t58_30.toNat 0)) (((o0_31).length : Int))).toNat) (o0_31.getD t58_30.toNat dSCurtail))))))))) else (chargenetlaw13_CurtailOrder_p45 t58_30 kl_n_42 o0_31)) else (chargenetlaw13_CurtailOrder_p19 F a0_l o0_31)
def chargenetlaw13_CurtailOrder_l42 (F : Nat) (a0_l : List SCurtail) (a1_order : List Int) (c_4 : List SCurtail) : Nat → Int → (List SCurtail) → Option Bool
  | 0, _, _ => none
  | n + 1, t58_30, o0_31 => chargenetlaw13_CurtailOrder_b42 F a0_l a1_order c_4 (fun t58_30 o0_31 => chargenetlaw13_CurtailOrder_l42 F a0_l a1_order c_4 n t58_30 o0_31) t58_30 o0_31
def chargenetlaw13_CurtailOrder_p53 (F : Nat) (a0_l : List SCurtail) (a1_order : List Int) : Option Bool :=
  (slices_Clone_api_Curtail_api_Curtail_own F a0_l).bind fun c_4 => chargenetlaw13_CurtailOrder_l42 F a0_l a1_order c_4 F 0 c_4
def chargenetlaw13_CurtailOrder_p125 (t20_88 : Int) (kl_n_123 : Int → Option Bool) : Option Bool :=
  kl_n_123 (IntKind.wrap .i64 (t20_88 + 1))
def chargenetlaw13_CurtailOrder_p149 (t24_136 : Int) (kl_n_147 : Int → Option Bool) : Option Bool :=
  kl_n_147 (IntKind.wrap .i64 (t24_136 + 1))
def chargenetlaw13_CurtailOrder_b147 (F : Nat) (a0_l : List SCurtail) (t20_88 : Int) (kl_n_123 : Int → Option Bool) (kl_n_147 : Int → Option Bool) (t24_136 : Int) : Option Bool :=
  bif decide (t24_136 < t20_88) then (guard ((0 : Int) ≤ t20_88 ∧ t20_88 < ((a0_l).length : Int)) (guard ((0 : Int) ≤ t24_136 ∧ t24_136 < ((a0_l).length : Int)) (bif sEq ((a0_l.getD t20_88.toNat dSCurtail).Name) ((a0_l.getD t24_136.toNat dSCurtail).Name) then (guard ((0 : Int) ≤ t20_88 ∧ t20_88 < ((a0_l).length : Int)) (guard ((0 : Int) ≤ t24_136 ∧ t24_136 < ((a0_l).length : Int)) (bif decide ((a0_l.getD t20_88.toNat dSCurtail).Version = (a0_l.getD t24_136.toNat dSCurtail).Version) then ((chargenetlaw13_exampleHolds F).bind fun c_156 => some c_156) else (chargenetlaw13_CurtailOrder_p149 t24_136 kl_n_147)))) else (chargenetlaw13_CurtailOrder_p149 t24_136 kl_n_147)))) else (chargenetlaw13_CurtailOrder_p125 t20_88 kl_n_123)
def chargenetlaw13_CurtailOrder_l147 (F : Nat) (a0_l : List SCurtail) (t20_88 : Int) (kl_n_123 : Int → Option Bool) : Nat → Int → Option Bool
  | 0, _ => none
  | n + 1, t24_136 => chargenetlaw13_CurtailOrder_b147 F a0_l t20_88 kl_n_123 (fun t24_136 => chargenetlaw13_CurtailOrder_l147 F a0_l t20_88 kl_n_123 n t24_136) t24_136
def chargenetlaw13_CurtailOrder_b123 (F : Nat) (a0_l : List SCurtail) (a1_order : List Int) (kl_n_123 : Int → Option Bool) (t20_88 : Int) : Option Bool :=
  bif decide (t20_88 < ((a0_l).length : Int)) then (chargenetlaw13_CurtailOrder_l147 F a0_l t20_88 kl_n_123 F 0) else (chargenetlaw13_CurtailOrder_p53 F a0_l a1_order)
def chargenetlaw13_CurtailOrder_l123 (F : Nat) (a0_l : List SCurtail) (a1_order : List Int) : Nat → Int → Option Bool
  | 0, _ => none
  | n + 1, t20_88 => chargenetlaw13_CurtailOrder_b123 F a0_l a1_order (fun t20_88 => chargenetlaw13_CurtailOrder_l123 F a0_l a1_order n t20_88) t20_88
def chargenetlaw13_CurtailOrder (F : Nat) (a0_l : List SCurtail) (a1_order : List Int) : Option Bool :=
  bif decide (64 < ((a0_l).length : Int)) then ((chargenetlaw13_exampleHolds F).bind fun c_2 => some c_2) else (chargenetlaw13_CurtailOrder_l123 F a0_l a1_order F 0)
def chargenetlaw13_CurtailNext_p18 (c_13 : Int) (changed_16 : Bool) : Option Bool :=
  bif decide (c_13 = (-1)) then (some true) else (some changed_16)
def chargenetlaw13_CurtailNext_p47 (t60_30 : Int) (kl_n_44 : Bool → Int → Option Bool) (changed_46 : Bool) : Option Bool :=
  kl_n_44 changed_46 (IntKind.wrap .i64 (t60_30 + 1))
def chargenetlaw13_CurtailNext_b44 (F : Nat) (a1_t : Int) (c_10 : (List SCurtail) × Bool) (c_13 : Int) (at_15 : Int) (kl_n_44 : Bool → Int → Option Bool) (changed_29 : Bool) (t60_30 : Int) : Option Bool :=
  bif decide (t60_30 < 32) then ((curtail_At F c_10.1 t60_30 at_15).bind fun c_48 => (curtail_At F c_10.1 t60_30 a1_t).bind fun c_50 => bif (!decide (c_48 = c_50)) then (some false) else (bif changed_29 then (chargenetlaw13_CurtailNext_p47 t60_30 kl_n_44 true) else ((curtail_At F c_10.1 t60_30 c_13).bind fun c_54 => (curtail_At F c_10.1 t60_30 (IntKind.wrap .i64 (c_13 - 1))).bind fun c_56 => chargenetlaw13_CurtailNext_p47 t60_30 kl_n_44 ((!decide (c_54 = c_56)))))) else (chargenetlaw13_CurtailNext_p18 c_13 changed_29)
def chargenetlaw13_CurtailNext_l44 (F : Nat) (a1_t : Int) (c_10 : (List SCurtail) × Bool) (c_13 : Int) (at_15 : Int) : Nat → Bool → Int → Option Bool
  | 0, _, _ => none
  | n + 1, changed_29, t60_30 => chargenetlaw13_CurtailNext_b44 F a1_t c_10 c_13 at_15 (fun changed_29 t60_30 => chargenetlaw13_CurtailNext_l44 F a1_t c_10 c_13 at_15 n changed_29 t60_30) changed_29 t60_30
def chargenetlaw13_CurtailNext_p58 (F : Nat) (a1_t : Int) (c_10 : (List SCurtail) × Bool) (c_13 : Int) (at_15 : Int) : Option Bool :=
  chargenetlaw13_CurtailNext_l44 F a1_t c_10 c_13 at_15 F false 0
def chargenetlaw13_CurtailNext_p61 (F : Nat) (a1_t : Int) (a2_u : Int) (c_10 : (List SCurtail) × Bool) (c_13 : Int) : Option Bool :=
  bif decide (0 ≤ c_13) then (guard (IntKind.wrap .i64 (c_13 - a1_t) ≠ 0) (chargenetlaw13_CurtailNext_p58 F a1_t c_10 c_13 (IntKind.wrap .i64 (a1_t + Int.tmod (IntKind.wrap .i64 a2_u) (IntKind.wrap .i64 (c_13 - a1_t)))))) else (chargenetlaw13_CurtailNext_p58 F a1_t c_10 c_13 (IntKind.wrap .i64 (a1_t + IntKind.wrap .i64 a2_u)))
def chargenetlaw13_CurtailNext (F : Nat) (a0_l : List SCurtail) (a1_t : Int) (a2_u : Int) : Option Bool :=
  bif decide (100 < ((a0_l).length : Int)) then ((chargenetlaw13_exampleHolds F).bind fun c_2 => some c_2) else (bif decide (a1_t < (-1000)) then ((chargenetlaw13_exampleHolds F).bind fun c_5 => some c_5) else (bif decide (536870912 < a1_t) then ((chargenetlaw13_exampleHolds F).bind fun c_8 => some c_8) else ((chargenetlaw13_build F a0_l).bind fun c_10 => bif (!c_10.2) then (some false) else ((curtail_Next F c_10.1 a1_t).bind fun c_13 => bif decide (0 ≤ c_13) then (bif decide (c_13 ≤ a1_t) then (some false) else (bif decide (c_13 < (-1)) then (some false) else (chargenetlaw13_CurtailNext_p61 F a1_t a2_u c_10 c_13))) else (bif decide (c_13 < (-1)) then (some false) else (chargenetlaw13_CurtailNext_p61 F a1_t a2_u c_10 c_13))))))
def chargenetlaw13_CurtailCancel_1 (F : Nat) (a0_x : SCurtail) (a1f0 : SCurtail) : Option Bool :=
  some (sEq a0_x.Name a1f0.Name)
def slices_IndexFunc_api_Curtail_api_Curtail_f1_22_p1  : Option Int :=
  some ((-1))
def slices_IndexFunc_api_Curtail_api_Curtail_f1_22_b13 (F : Nat) (a0_s : List SCurtail) (a1f0 : SCurtail) (kl_n_13 : Int → Option Int) (t8_7 : Int) : Option Int :=
  bif decide (t8_7 < ((a0_s).length : Int)) then (guard ((0 : Int) ≤ t8_7 ∧ t8_7 < ((a0_s).length : Int)) ((chargenetlaw13_CurtailCancel_1 F (a0_s.getD t8_7.toNat dSCurtail) a1f0).bind fun c_16 => bif c_16 then (some t8_7) else (kl_n_13 (IntKind.wrap .i64 (t8_7 + 1))))) else (slices_IndexFunc_api_Curtail_api_Curtail_f1_22_p1)
def slices_IndexFunc_api_Curtail_api_Curtail_f1_22_l13 (F : Nat) (a0_s : List SCurtail) (a1f0 : SCurtail) : Nat → Int → Option Int
  | 0, _ => none
  | n + 1, t8_7 => slices_IndexFunc_api_Curtail_api_Curtail_f1_22_b13 F a0_s a1f0 (fun t8_7 => slices_IndexFunc_api_Curtail_api_Curtail_f1_22_l13 F a0_s a1f0 n t8_7) t8_7
def slices_IndexFunc_api_Curtail_api_Curtail_f1_22 (F : Nat) (a0_s : List SCurtail) (a1f0 : SCurtail) : Option Int :=
  slices_IndexFunc_api_Curtail_api_Curtail_f1_22_l13 F a0_s a1f0 F 0
def slices_DeleteFunc_api_Curtail_api_Curtail_f1_22_p9 (i_4 : Int) (o0_5 : List SCurtail) : Option (List SCurtail) :=
  guard ((0 : Int) ≤ i_4 ∧ i_4 ≤ ((o0_5).length : Int)) (guard ((i_4 : Int).toNat + ((o0_5).length - (i_4 : Int).toNat) ≤ (o0_5).length) (guard ((0 : Int) ≤ i_4 ∧ i_4 ≤ ((copyL o0_5 ((i_4 : Int).toNat) ((o0_5).length - (i_4 : Int).toNat) (List.replicate ((o0_5).length - (i_4 : Int).toNat) dSCurtail)).length : Int)) (some ((copyL o0_5 ((i_4 : Int).toNat) ((o0_5).length - (i_4 : Int).toNat) (List.replicate ((o0_5).length - (i_4 : Int).toNat) dSCurtail)).take (i_4 : Int).toNat))))
def slices_DeleteFunc_api_Curtail_api_Curtail_f1_22_p35 (j_20 : Int) (kl_n_31 : Int → Int → (List SCurtail) → Option (List SCurtail)) (i_33 : Int) (o0_34 : List SCurtail) : Option (List SCurtail) :=
  kl_n_31 i_33 (IntKind.wrap .i64 (j_20 + 1)) o0_34
def slices_DeleteFunc_api_Curtail_api_Curtail_f1_22_b31 (F : Nat) (a1f0 : SCurtail) (kl_n_31 : Int → Int → (List SCurtail) → Option (List SCurtail)) (i_19 : Int) (j_20 : Int) (o0_21 : List SCurtail) : Option (List SCurtail) :=
  bif decide (j_20 < ((o0_21).length : Int)) then (guard ((0 : Int) ≤ j_20 ∧ j_20 < ((o0_21).length : Int)) ((chargenetlaw13_CurtailCancel_1 F (o0_21.getD j_20.toNat dSCurtail) a1f0).bind fun c_37 => bif (!c_37) then (guard ((0 : Int) ≤ i_19 ∧ i_19 < ((o0_21).length : Int)) (slices_DeleteFunc_api_Curtail_api_Curtail_f1_22_p35 j_20 kl_n_31 (IntKind.wrap .i64 (i_19 + 1)) (o0_21.set i_19.toNat (o0_21.getD j_20.toNat dSCurtail)))) else (slices_DeleteFunc_api_Curtail_api_Curtail_f1_22_p35 j_20 kl_n_31 i_19 o0_21))) else (slices_DeleteFunc_api_Curtail_api_Curtail_f1_22_p9 i_19 o0_21)
def slices_DeleteFunc_api_Curtail_api_Curtail_f1_22_l31 (F : Nat) (a1f0 : SCurtail) : Nat → Int → Int → (List SCurtail) → Option (List SCurtail)
  | 0, _, _, _ => none
  | n + 1, i_19, j_20, o0_21 => slices_DeleteFunc_api_Curtail_api_Curtail_f1_22_b31 F a1f0 (fun i_19 j_20 o0_21 => slices_DeleteFunc_api_Curtail_api_Curtail_f1_22_l31 F a1f0 n i_19 j_20 o0_21) i_19 j_20 o0_21
def slices_DeleteFunc_api_Curtail_api_Curtail_f1_22 (F : Nat) (a0_s : List SCurtail) (a1f0 : SCurtail) : Option (List SCurtail) :=
  (slices_IndexFunc_api_Curtail_api_Curtail_f1_22 F a0_s a1f0).bind fun c_1 => bif decide (c_1 = (-1)) then (some a0_s) else (slices_DeleteFunc_api_Curtail_api_Curtail_f1_22_l31 F a1f0 F c_1 (IntKind.wrap .i64 (c_1 + 1)) a0_s)
def chargenetlaw13_CurtailCancel (F : Nat) (a0_l : List SCurtail) (a1_c : SCurtail) (a2_feeder : Int) (a3_t : Int) : Option Bool :=
  bif decide (100 < ((a0_l).length : Int)) then ((chargenetlaw13_exampleHolds F).bind fun c_2 => some c_2) else ((chargenetlaw13_build F a0_l).bind fun c_4 => bif (!c_4.2) then (some false) else ((curtail_Put F c_4.1 (SCurtail.mk a1_c.Name a1_c.Version a1_c.Feeder a1_c.Span_From a1_c.Span_To a1_c.Total true)).bind fun c_7 => bif (!decide (c_7.2 = 0)) then ((slices_Equal_api_Curtail_api_Curtail F c_4.1 c_7.1).bind fun c_10 => bif c_10 then ((chargenetlaw13_exampleHolds F).bind fun c_13 => some c_13) else (some false)) else ((slices_Clone_api_Curtail_api_Curtail_own F c_4.1).bind fun c_15 => (slices_DeleteFunc_api_Curtail_api_Curtail_f1_22 F c_15 (SCurtail.mk a1_c.Name a1_c.Version a1_c.Feeder a1_c.Span_From a1_c.Span_To a1_c.Total true)).bind fun c_17 => (curtail_At F c_7.1 a2_feeder a3_t).bind fun c_19 => (curtail_At F c_17 a2_feeder a3_t).bind fun c_21 => bif decide (c_19 = c_21) then ((curtail_Next F c_7.1 a3_t).bind fun c_24 => (curtail_Next F c_17 a3_t).bind fun c_26 => bif decide (c_24 = c_26) then ((chargenetlaw13_exampleHolds F).bind fun c_29 => some c_29) else (some false)) else (some false))))
end Go.Proofs.Ytcccjpkfifefaaa.M
