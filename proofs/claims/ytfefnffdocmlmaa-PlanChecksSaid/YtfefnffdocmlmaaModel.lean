/- Written by a program of ours (wip/eng/gen.py): the plain models of the functions. -/
import Derived.Test.YtfefnffdocmlmaaEngX
namespace Go.Proofs.Ytfefnffdocmlmaa.M
open Go Go.Proofs.Ytfefnffdocmlmaa.E
set_option linter.unusedVariables false
structure SDemand where
  Feeder : Int
  Max : Int
  Energy : Int
  Arrive : Int
  Depart : Int
def dSDemand : SDemand := ⟨0, 0, 0, 0, 0⟩
structure SProblem where
  Parents : List Int
  Caps : List (List Int)
  From : Int
  Length : Int
  Demands : List SDemand
def dSProblem : SProblem := ⟨[], [], 0, 0, []⟩
structure SArc where
  From : Int
  To : Int
  Cap : Int
def dSArc : SArc := ⟨0, 0, 0⟩
structure SNet where
  Nodes : Int
  Arcs : List SArc
def dSNet : SNet := ⟨0, []⟩
structure SEdge where
  to : Int
  room : Int
def dSEdge : SEdge := ⟨0, 0⟩
def chargenetref18_Valid_p11  : Option Int :=
  some 0
def chargenetref18_Valid_b35 (a0_p : SProblem) (kl_n_35 : Int → Option Int) (t116_23 : Int) : Option Int :=
  bif decide (t116_23 < ((a0_p.Demands).length : Int)) then (guard ((0 : Int) ≤ t116_23 ∧ t116_23 < ((a0_p.Demands).length : Int)) (bif decide ((a0_p.Demands.getD t116_23.toNat dSDemand).Feeder < 0) then (some 1) else (bif decide (((a0_p.Parents).length : Int) ≤ (a0_p.Demands.getD t116_23.toNat dSDemand).Feeder) then (some 1) else (bif decide ((a0_p.Demands.getD t116_23.toNat dSDemand).Max < 0) then (some 2) else (bif decide (3145728 < (a0_p.Demands.getD t116_23.toNat dSDemand).Max) then (some 2) else (bif decide ((a0_p.Demands.getD t116_23.toNat dSDemand).Energy < 0) then (some 2) else (bif decide (1099511627776 < (a0_p.Demands.getD t116_23.toNat dSDemand).Energy) then (some 2) else (bif decide ((a0_p.Demands.getD t116_23.toNat dSDemand).Arrive < 0) then (some 2) else (bif decide ((a0_p.Demands.getD t116_23.toNat dSDemand).Depart < (a0_p.Demands.getD t116_23.toNat dSDemand).Arrive) then (some 2) else (bif decide (268435456 < (a0_p.Demands.getD t116_23.toNat dSDemand).Depart) then (some 2) else (kl_n_35 (IntKind.wrap .i64 (t116_23 + 1))))))))))))) else (chargenetref18_Valid_p11)
def chargenetref18_Valid_l35 (a0_p : SProblem) : Nat → Int → Option Int
  | 0, _ => none
  | n + 1, t116_23 => chargenetref18_Valid_b35 a0_p (fun t116_23 => chargenetref18_Valid_l35 a0_p n t116_23) t116_23
def chargenetref18_Valid_p47 (F : Nat) (a0_p : SProblem) : Option Int :=
  bif decide (a0_p.From < 0) then (some 2) else (bif decide (268435456 < a0_p.From) then (some 2) else (bif decide (a0_p.Length < 1) then (some 2) else (bif decide (1440 < a0_p.Length) then (some 2) else (bif decide (268435456 < IntKind.wrap .i64 (a0_p.From + IntKind.wrap .i64 (((a0_p.Caps).length : Int) * a0_p.Length))) then (some 2) else (chargenetref18_Valid_l35 a0_p F 0)))))
def chargenetref18_Valid_p87 (t63_66 : Int) (kl_n_85 : Int → Option Int) : Option Int :=
  kl_n_85 (IntKind.wrap .i64 (t63_66 + 1))
def chargenetref18_Valid_b99 (a0_p : SProblem) (t63_66 : Int) (kl_n_85 : Int → Option Int) (kl_n_99 : Int → Option Int) (t73_94 : Int) : Option Int :=
  bif decide (t73_94 < ((a0_p.Caps.getD t63_66.toNat ([])).length : Int)) then (guard ((0 : Int) ≤ t73_94 ∧ t73_94 < ((a0_p.Caps.getD t63_66.toNat ([])).length : Int)) (bif decide ((a0_p.Caps.getD t63_66.toNat ([])).getD t73_94.toNat 0 < 0) then (some 1) else (bif decide (1073741824 < (a0_p.Caps.getD t63_66.toNat ([])).getD t73_94.toNat 0) then (some 1) else (kl_n_99 (IntKind.wrap .i64 (t73_94 + 1)))))) else (chargenetref18_Valid_p87 t63_66 kl_n_85)
def chargenetref18_Valid_l99 (a0_p : SProblem) (t63_66 : Int) (kl_n_85 : Int → Option Int) : Nat → Int → Option Int
  | 0, _ => none
  | n + 1, t73_94 => chargenetref18_Valid_b99 a0_p t63_66 kl_n_85 (fun t73_94 => chargenetref18_Valid_l99 a0_p t63_66 kl_n_85 n t73_94) t73_94
def chargenetref18_Valid_b85 (F : Nat) (a0_p : SProblem) (kl_n_85 : Int → Option Int) (t63_66 : Int) : Option Int :=
  bif decide (t63_66 < ((a0_p.Caps).length : Int)) then (guard ((0 : Int) ≤ t63_66 ∧ t63_66 < ((a0_p.Caps).length : Int)) (bif (!decide (((a0_p.Caps.getD t63_66.toNat ([])).length : Int) = ((a0_p.Parents).length : Int))) then (some 1) else (chargenetref18_Valid_l99 a0_p t63_66 kl_n_85 F 0))) else (chargenetref18_Valid_p47 F a0_p)
def chargenetref18_Valid_l85 (F : Nat) (a0_p : SProblem) : Nat → Int → Option Int
  | 0, _ => none
  | n + 1, t63_66 => chargenetref18_Valid_b85 F a0_p (fun t63_66 => chargenetref18_Valid_l85 F a0_p n t63_66) t63_66
def chargenetref18_Valid_p104 (F : Nat) (a0_p : SProblem) : Option Int :=
  chargenetref18_Valid_l85 F a0_p F 0
def chargenetref18_Valid_b114 (F : Nat) (a0_p : SProblem) (kl_n_114 : Int → Option Int) (t47_109 : Int) : Option Int :=
  bif decide (t47_109 < ((a0_p.Parents).length : Int)) then (guard ((0 : Int) ≤ t47_109 ∧ t47_109 < ((a0_p.Parents).length : Int)) (bif decide (a0_p.Parents.getD t47_109.toNat 0 < (-1)) then (some 1) else (bif decide (t47_109 ≤ a0_p.Parents.getD t47_109.toNat 0) then (some 1) else (kl_n_114 (IntKind.wrap .i64 (t47_109 + 1)))))) else (chargenetref18_Valid_p104 F a0_p)
def chargenetref18_Valid_l114 (F : Nat) (a0_p : SProblem) : Nat → Int → Option Int
  | 0, _ => none
  | n + 1, t47_109 => chargenetref18_Valid_b114 F a0_p (fun t47_109 => chargenetref18_Valid_l114 F a0_p n t47_109) t47_109
def chargenetref18_Valid (F : Nat) (a0_p : SProblem) : Option Int :=
  bif decide (32 < ((a0_p.Parents).length : Int)) then (some 3) else (bif decide (48 < ((a0_p.Caps).length : Int)) then (some 3) else (bif decide (16 < ((a0_p.Demands).length : Int)) then (some 3) else (bif decide (256 < IntKind.wrap .i64 (IntKind.wrap .i64 (2 + ((a0_p.Demands).length : Int)) + IntKind.wrap .i64 (((a0_p.Caps).length : Int) * ((a0_p.Parents).length : Int)))) then (some 3) else (bif decide (((a0_p.Parents).length : Int) = 0) then (some 1) else (chargenetref18_Valid_l114 F a0_p F 0)))))
def chargenetlaw18_Small (F : Nat) (a0_p : SProblem) : Option Bool :=
  bif decide (((a0_p.Demands).length : Int) ≤ 6) then (bif decide (((a0_p.Caps).length : Int) ≤ 12) then (bif decide (((a0_p.Parents).length : Int) ≤ 4) then ((chargenetref18_Valid F a0_p).bind fun c_4 => some (decide (c_4 = 0))) else (some false)) else (some false)) else (some false)
def plan_forest_p1  : Option Bool :=
  some true
def plan_forest_p41 (t28_20 : Int) (kl_n_39 : Int → Option Bool) : Option Bool :=
  kl_n_39 (IntKind.wrap .i64 (t28_20 + 1))
def plan_forest_b53 (a0_p : SProblem) (t28_20 : Int) (kl_n_39 : Int → Option Bool) (kl_n_53 : Int → Option Bool) (t40_48 : Int) : Option Bool :=
  bif decide (t40_48 < ((a0_p.Caps.getD t28_20.toNat ([])).length : Int)) then (guard ((0 : Int) ≤ t40_48 ∧ t40_48 < ((a0_p.Caps.getD t28_20.toNat ([])).length : Int)) (bif decide ((a0_p.Caps.getD t28_20.toNat ([])).getD t40_48.toNat 0 < 0) then (some false) else (bif decide (1073741824 < (a0_p.Caps.getD t28_20.toNat ([])).getD t40_48.toNat 0) then (some false) else (kl_n_53 (IntKind.wrap .i64 (t40_48 + 1)))))) else (plan_forest_p41 t28_20 kl_n_39)
def plan_forest_l53 (a0_p : SProblem) (t28_20 : Int) (kl_n_39 : Int → Option Bool) : Nat → Int → Option Bool
  | 0, _ => none
  | n + 1, t40_48 => plan_forest_b53 a0_p t28_20 kl_n_39 (fun t40_48 => plan_forest_l53 a0_p t28_20 kl_n_39 n t40_48) t40_48
def plan_forest_b39 (F : Nat) (a0_p : SProblem) (kl_n_39 : Int → Option Bool) (t28_20 : Int) : Option Bool :=
  bif decide (t28_20 < ((a0_p.Caps).length : Int)) then (guard ((0 : Int) ≤ t28_20 ∧ t28_20 < ((a0_p.Caps).length : Int)) (bif (!decide (((a0_p.Caps.getD t28_20.toNat ([])).length : Int) = ((a0_p.Parents).length : Int))) then (some false) else (plan_forest_l53 a0_p t28_20 kl_n_39 F 0))) else (plan_forest_p1)
def plan_forest_l39 (F : Nat) (a0_p : SProblem) : Nat → Int → Option Bool
  | 0, _ => none
  | n + 1, t28_20 => plan_forest_b39 F a0_p (fun t28_20 => plan_forest_l39 F a0_p n t28_20) t28_20
def plan_forest_p58 (F : Nat) (a0_p : SProblem) : Option Bool :=
  plan_forest_l39 F a0_p F 0
def plan_forest_b68 (F : Nat) (a0_p : SProblem) (kl_n_68 : Int → Option Bool) (t12_63 : Int) : Option Bool :=
  bif decide (t12_63 < ((a0_p.Parents).length : Int)) then (guard ((0 : Int) ≤ t12_63 ∧ t12_63 < ((a0_p.Parents).length : Int)) (bif decide (a0_p.Parents.getD t12_63.toNat 0 < (-1)) then (some false) else (bif decide (t12_63 ≤ a0_p.Parents.getD t12_63.toNat 0) then (some false) else (kl_n_68 (IntKind.wrap .i64 (t12_63 + 1)))))) else (plan_forest_p58 F a0_p)
def plan_forest_l68 (F : Nat) (a0_p : SProblem) : Nat → Int → Option Bool
  | 0, _ => none
  | n + 1, t12_63 => plan_forest_b68 F a0_p (fun t12_63 => plan_forest_l68 F a0_p n t12_63) t12_63
def plan_forest (F : Nat) (a0_p : SProblem) : Option Bool :=
  plan_forest_l68 F a0_p F 0
def plan_Valid_p14  : Option Int :=
  some 0
def plan_Valid_b38 (a0_p : SProblem) (kl_n_38 : Int → Option Int) (t70_26 : Int) : Option Int :=
  bif decide (t70_26 < ((a0_p.Demands).length : Int)) then (guard ((0 : Int) ≤ t70_26 ∧ t70_26 < ((a0_p.Demands).length : Int)) (bif decide ((a0_p.Demands.getD t70_26.toNat dSDemand).Feeder < 0) then (some 1) else (bif decide (((a0_p.Parents).length : Int) ≤ (a0_p.Demands.getD t70_26.toNat dSDemand).Feeder) then (some 1) else (bif decide ((a0_p.Demands.getD t70_26.toNat dSDemand).Max < 0) then (some 2) else (bif decide (3145728 < (a0_p.Demands.getD t70_26.toNat dSDemand).Max) then (some 2) else (bif decide ((a0_p.Demands.getD t70_26.toNat dSDemand).Energy < 0) then (some 2) else (bif decide (1099511627776 < (a0_p.Demands.getD t70_26.toNat dSDemand).Energy) then (some 2) else (bif decide ((a0_p.Demands.getD t70_26.toNat dSDemand).Arrive < 0) then (some 2) else (bif decide ((a0_p.Demands.getD t70_26.toNat dSDemand).Depart < (a0_p.Demands.getD t70_26.toNat dSDemand).Arrive) then (some 2) else (bif decide (268435456 < (a0_p.Demands.getD t70_26.toNat dSDemand).Depart) then (some 2) else (kl_n_38 (IntKind.wrap .i64 (t70_26 + 1))))))))))))) else (plan_Valid_p14)
def plan_Valid_l38 (a0_p : SProblem) : Nat → Int → Option Int
  | 0, _ => none
  | n + 1, t70_26 => plan_Valid_b38 a0_p (fun t70_26 => plan_Valid_l38 a0_p n t70_26) t70_26
def plan_Valid (F : Nat) (a0_p : SProblem) : Option Int :=
  bif decide (32 < ((a0_p.Parents).length : Int)) then (some 3) else (bif decide (48 < ((a0_p.Caps).length : Int)) then (some 3) else (bif decide (16 < ((a0_p.Demands).length : Int)) then (some 3) else (bif decide (256 < IntKind.wrap .i64 (IntKind.wrap .i64 (2 + ((a0_p.Demands).length : Int)) + IntKind.wrap .i64 (((a0_p.Caps).length : Int) * ((a0_p.Parents).length : Int)))) then (some 3) else (bif decide (((a0_p.Parents).length : Int) = 0) then (some 1) else ((plan_forest F a0_p).bind fun c_6 => bif (!c_6) then (some 1) else (bif decide (a0_p.From < 0) then (some 2) else (bif decide (268435456 < a0_p.From) then (some 2) else (bif decide (a0_p.Length < 1) then (some 2) else (bif decide (1440 < a0_p.Length) then (some 2) else (bif decide (268435456 < IntKind.wrap .i64 (a0_p.From + IntKind.wrap .i64 (((a0_p.Caps).length : Int) * a0_p.Length))) then (some 2) else (plan_Valid_l38 a0_p F 0)))))))))))
def plan_usable (F : Nat) (a0_p : SProblem) (a1_d : SDemand) (a2_slot : Int) : Option Bool :=
  bif decide (a1_d.Arrive ≤ IntKind.wrap .i64 (a0_p.From + IntKind.wrap .i64 (a2_slot * a0_p.Length))) then (some (decide (IntKind.wrap .i64 (IntKind.wrap .i64 (a0_p.From + IntKind.wrap .i64 (a2_slot * a0_p.Length)) + a0_p.Length) ≤ a1_d.Depart))) else (some false)
def plan_network_own_p4 (a0_p : SProblem) (o3_3 : List SArc) : Option SNet :=
  some (SNet.mk (IntKind.wrap .i64 (IntKind.wrap .i64 (2 + ((a0_p.Demands).length : Int)) + IntKind.wrap .i64 (((a0_p.Caps).length : Int) * ((a0_p.Parents).length : Int)))) o3_3)
def plan_network_own_p66 (t92_33 : Int) (kl_n_63 : Int → (List SArc) → Option SNet) (o4_65 : List SArc) : Option SNet :=
  kl_n_63 (IntKind.wrap .i64 (t92_33 + 1)) o4_65
def plan_network_own_p90 (a0_p : SProblem) (t92_33 : Int) (t105_75 : Int) (o4_76 : List SArc) (kl_n_84 : Int → (List SArc) → Option SNet) (to_87 : Int) : Option SNet :=
  guard ((0 : Int) ≤ t105_75 ∧ t105_75 < ((a0_p.Caps.getD t92_33.toNat ([])).length : Int)) (guard (((o4_76).length + ([SArc.mk (IntKind.wrap .i64 (IntKind.wrap .i64 (IntKind.wrap .i64 (2 + ((a0_p.Demands).length : Int)) + IntKind.wrap .i64 (t92_33 * ((a0_p.Parents).length : Int))) + t105_75)) to_87 ((if 1099511627776 < IntKind.wrap .i64 ((a0_p.Caps.getD t92_33.toNat ([])).getD t105_75.toNat 0 * a0_p.Length) then 1099511627776 else IntKind.wrap .i64 ((a0_p.Caps.getD t92_33.toNat ([])).getD t105_75.toNat 0 * a0_p.Length)))]).length) * 24 ≤ 140737488355328 ∧ (o4_76).length + ([SArc.mk (IntKind.wrap .i64 (IntKind.wrap .i64 (IntKind.wrap .i64 (2 + ((a0_p.Demands).length : Int)) + IntKind.wrap .i64 (t92_33 * ((a0_p.Parents).length : Int))) + t105_75)) to_87 ((if 1099511627776 < IntKind.wrap .i64 ((a0_p.Caps.getD t92_33.toNat ([])).getD t105_75.toNat 0 * a0_p.Length) then 1099511627776 else IntKind.wrap .i64 ((a0_p.Caps.getD t92_33.toNat ([])).getD t105_75.toNat 0 * a0_p.Length)))]).length ≤ 140737488355328) (kl_n_84 (IntKind.wrap .i64 (t105_75 + 1)) (o4_76 ++ ([SArc.mk (IntKind.wrap .i64 (IntKind.wrap .i64 (IntKind.wrap .i64 (2 + ((a0_p.Demands).length : Int)) + IntKind.wrap .i64 (t92_33 * ((a0_p.Parents).length : Int))) + t105_75)) to_87 ((if 1099511627776 < IntKind.wrap .i64 ((a0_p.Caps.getD t92_33.toNat ([])).getD t105_75.toNat 0 * a0_p.Length) then 1099511627776 else IntKind.wrap .i64 ((a0_p.Caps.getD t92_33.toNat ([])).getD t105_75.toNat 0 * a0_p.Length)))]))))
def plan_network_own_b84 (a0_p : SProblem) (t92_33 : Int) (kl_n_63 : Int → (List SArc) → Option SNet) (kl_n_84 : Int → (List SArc) → Option SNet) (t105_75 : Int) (o4_76 : List SArc) : Option SNet :=
  bif decide (t105_75 < ((a0_p.Parents).length : Int)) then (guard ((0 : Int) ≤ t105_75 ∧ t105_75 < ((a0_p.Parents).length : Int)) (bif decide (0 ≤ a0_p.Parents.getD t105_75.toNat 0) then (plan_network_own_p90 a0_p t92_33 t105_75 o4_76 kl_n_84 (IntKind.wrap .i64 (IntKind.wrap .i64 (IntKind.wrap .i64 (2 + ((a0_p.Demands).length : Int)) + IntKind.wrap .i64 (t92_33 * ((a0_p.Parents).length : Int))) + a0_p.Parents.getD t105_75.toNat 0))) else (plan_network_own_p90 a0_p t92_33 t105_75 o4_76 kl_n_84 1))) else (plan_network_own_p66 t92_33 kl_n_63 o4_76)
def plan_network_own_l84 (a0_p : SProblem) (t92_33 : Int) (kl_n_63 : Int → (List SArc) → Option SNet) : Nat → Int → (List SArc) → Option SNet
  | 0, _, _ => none
  | n + 1, t105_75, o4_76 => plan_network_own_b84 a0_p t92_33 kl_n_63 (fun t105_75 o4_76 => plan_network_own_l84 a0_p t92_33 kl_n_63 n t105_75 o4_76) t105_75 o4_76
def plan_network_own_b63 (F : Nat) (a0_p : SProblem) (kl_n_63 : Int → (List SArc) → Option SNet) (t92_33 : Int) (o4_34 : List SArc) : Option SNet :=
  bif decide (t92_33 < ((a0_p.Caps).length : Int)) then (guard ((0 : Int) ≤ t92_33 ∧ t92_33 < ((a0_p.Caps).length : Int)) (plan_network_own_l84 a0_p t92_33 kl_n_63 F 0 o4_34)) else (plan_network_own_p4 a0_p o4_34)
def plan_network_own_l63 (F : Nat) (a0_p : SProblem) : Nat → Int → (List SArc) → Option SNet
  | 0, _, _ => none
  | n + 1, t92_33, o4_34 => plan_network_own_b63 F a0_p (fun t92_33 o4_34 => plan_network_own_l63 F a0_p n t92_33 o4_34) t92_33 o4_34
def plan_network_own_p92 (F : Nat) (a0_p : SProblem) (o4_2 : List SArc) : Option SNet :=
  plan_network_own_l63 F a0_p F 0 o4_2
def plan_network_own_p154 (t50_121 : Int) (kl_n_151 : Int → (List SArc) → Option SNet) (o4_153 : List SArc) : Option SNet :=
  kl_n_151 (IntKind.wrap .i64 (t50_121 + 1)) o4_153
def plan_network_own_p175 (t58_163 : Int) (kl_n_172 : Int → (List SArc) → Option SNet) (o4_174 : List SArc) : Option SNet :=
  kl_n_172 (IntKind.wrap .i64 (t58_163 + 1)) o4_174
def plan_network_own_b172 (F : Nat) (a0_p : SProblem) (t50_121 : Int) (kl_n_151 : Int → (List SArc) → Option SNet) (kl_n_172 : Int → (List SArc) → Option SNet) (t58_163 : Int) (o4_164 : List SArc) : Option SNet :=
  bif decide (t58_163 < ((a0_p.Caps).length : Int)) then ((plan_usable F a0_p (a0_p.Demands.getD t50_121.toNat dSDemand) t58_163).bind fun c_176 => bif c_176 then (guard (((o4_164).length + ([SArc.mk (IntKind.wrap .i64 (2 + t50_121)) (IntKind.wrap .i64 (IntKind.wrap .i64 (IntKind.wrap .i64 (2 + ((a0_p.Demands).length : Int)) + IntKind.wrap .i64 (t58_163 * ((a0_p.Parents).length : Int))) + (a0_p.Demands.getD t50_121.toNat dSDemand).Feeder)) (IntKind.wrap .i64 ((a0_p.Demands.getD t50_121.toNat dSDemand).Max * a0_p.Length))]).length) * 24 ≤ 140737488355328 ∧ (o4_164).length + ([SArc.mk (IntKind.wrap .i64 (2 + t50_121)) (IntKind.wrap .i64 (IntKind.wrap .i64 (IntKind.wrap .i64 (2 + ((a0_p.Demands).length : Int)) + IntKind.wrap .i64 (t58_163 * ((a0_p.Parents).length : Int))) + (a0_p.Demands.getD t50_121.toNat dSDemand).Feeder)) (IntKind.wrap .i64 ((a0_p.Demands.getD t50_121.toNat dSDemand).Max * a0_p.Length))]).length ≤ 140737488355328) (plan_network_own_p175 t58_163 kl_n_172 (o4_164 ++ ([SArc.mk (IntKind.wrap .i64 (2 + t50_121)) (IntKind.wrap .i64 (IntKind.wrap .i64 (IntKind.wrap .i64 (2 + ((a0_p.Demands).length : Int)) + IntKind.wrap .i64 (t58_163 * ((a0_p.Parents).length : Int))) + (a0_p.Demands.getD t50_121.toNat dSDemand).Feeder)) (IntKind.wrap .i64 ((a0_p.Demands.getD t50_121.toNat dSDemand).Max * a0_p.Length))])))) else (plan_network_own_p175 t58_163 kl_n_172 o4_164)) else (plan_network_own_p154 t50_121 kl_n_151 o4_164)
def plan_network_own_l172 (F : Nat) (a0_p : SProblem) (t50_121 : Int) (kl_n_151 : Int → (List SArc) → Option SNet) : Nat → Int → (List SArc) → Option SNet
  | 0, _, _ => none
  | n + 1, t58_163, o4_164 => plan_network_own_b172 F a0_p t50_121 kl_n_151 (fun t58_163 o4_164 => plan_network_own_l172 F a0_p t50_121 kl_n_151 n t58_163 o4_164) t58_163 o4_164
def plan_network_own_b151 (F : Nat) (a0_p : SProblem) (kl_n_151 : Int → (List SArc) → Option SNet) (t50_121 : Int) (o4_122 : List SArc) : Option SNet :=
  bif decide (t50_121 < ((a0_p.Demands).length : Int)) then (guard ((0 : Int) ≤ t50_121 ∧ t50_121 < ((a0_p.Demands).length : Int)) (plan_network_own_l172 F a0_p t50_121 kl_n_151 F 0 o4_122)) else (plan_network_own_p92 F a0_p o4_122)
def plan_network_own_l151 (F : Nat) (a0_p : SProblem) : Nat → Int → (List SArc) → Option SNet
  | 0, _, _ => none
  | n + 1, t50_121, o4_122 => plan_network_own_b151 F a0_p (fun t50_121 o4_122 => plan_network_own_l151 F a0_p n t50_121 o4_122) t50_121 o4_122
def plan_network_own_p180 (F : Nat) (a0_p : SProblem) (o4_1 : List SArc) : Option SNet :=
  plan_network_own_l151 F a0_p F 0 o4_1
def plan_network_own_b187 (F : Nat) (a0_p : SProblem) (kl_n_187 : Int → (List SArc) → Option SNet) (t35_183 : Int) (o4_184 : List SArc) : Option SNet :=
  bif decide (t35_183 < ((a0_p.Demands).length : Int)) then (guard (((o4_184).length + ([SArc.mk 0 (IntKind.wrap .i64 (2 + t35_183)) 0]).length) * 24 ≤ 140737488355328 ∧ (o4_184).length + ([SArc.mk 0 (IntKind.wrap .i64 (2 + t35_183)) 0]).length ≤ 140737488355328) (kl_n_187 (IntKind.wrap .i64 (t35_183 + 1)) (o4_184 ++ ([SArc.mk 0 (IntKind.wrap .i64 (2 + t35_183)) 0])))) else (plan_network_own_p180 F a0_p o4_184)
def plan_network_own_l187 (F : Nat) (a0_p : SProblem) : Nat → Int → (List SArc) → Option SNet
  | 0, _, _ => none
  | n + 1, t35_183, o4_184 => plan_network_own_b187 F a0_p (fun t35_183 o4_184 => plan_network_own_l187 F a0_p n t35_183 o4_184) t35_183 o4_184
def plan_network_own (F : Nat) (a0_p : SProblem) : Option SNet :=
  plan_network_own_l187 F a0_p F 0 (([] : List SArc))
def fair_check_p2  : Option Int :=
  some 0
def fair_check_b12 (a0_caps : List Int) (kl_n_12 : Int → Option Int) (t10_7 : Int) : Option Int :=
  bif decide (t10_7 < ((a0_caps).length : Int)) then (guard ((0 : Int) ≤ t10_7 ∧ t10_7 < ((a0_caps).length : Int)) (bif decide (a0_caps.getD t10_7.toNat 0 < 0) then (some 2) else (bif decide (1099511627776 < a0_caps.getD t10_7.toNat 0) then (some 2) else (kl_n_12 (IntKind.wrap .i64 (t10_7 + 1)))))) else (fair_check_p2)
def fair_check_l12 (a0_caps : List Int) : Nat → Int → Option Int
  | 0, _ => none
  | n + 1, t10_7 => fair_check_b12 a0_caps (fun t10_7 => fair_check_l12 a0_caps n t10_7) t10_7
def fair_check (F : Nat) (a0_caps : List Int) : Option Int :=
  bif decide (64 < ((a0_caps).length : Int)) then (some 3) else (fair_check_l12 a0_caps F 0)
def flow_isNode (F : Nat) (a0_n : SNet) (a1_i : Int) : Option Bool :=
  bif decide (0 ≤ a1_i) then (some (decide (a1_i < a0_n.Nodes))) else (some false)
def flow_Valid_p4  : Option Int :=
  some 0
def flow_Valid_b28 (F : Nat) (a0_n : SNet) (kl_n_28 : Int → Option Int) (t20_16 : Int) : Option Int :=
  bif decide (t20_16 < ((a0_n.Arcs).length : Int)) then (guard ((0 : Int) ≤ t20_16 ∧ t20_16 < ((a0_n.Arcs).length : Int)) ((flow_isNode F a0_n ((a0_n.Arcs.getD t20_16.toNat dSArc).From)).bind fun c_31 => bif (!c_31) then (some 2) else ((flow_isNode F a0_n ((a0_n.Arcs.getD t20_16.toNat dSArc).To)).bind fun c_34 => bif (!c_34) then (some 2) else (bif decide ((a0_n.Arcs.getD t20_16.toNat dSArc).From = (a0_n.Arcs.getD t20_16.toNat dSArc).To) then (some 1) else (bif decide ((a0_n.Arcs.getD t20_16.toNat dSArc).Cap < 0) then (some 2) else (bif decide (1099511627776 < (a0_n.Arcs.getD t20_16.toNat dSArc).Cap) then (some 2) else (kl_n_28 (IntKind.wrap .i64 (t20_16 + 1))))))))) else (flow_Valid_p4)
def flow_Valid_l28 (F : Nat) (a0_n : SNet) : Nat → Int → Option Int
  | 0, _ => none
  | n + 1, t20_16 => flow_Valid_b28 F a0_n (fun t20_16 => flow_Valid_l28 F a0_n n t20_16) t20_16
def flow_Valid (F : Nat) (a0_n : SNet) : Option Int :=
  bif decide (a0_n.Nodes < 2) then (some 2) else (bif decide (256 < a0_n.Nodes) then (some 3) else (bif decide (2048 < ((a0_n.Arcs).length : Int)) then (some 3) else (flow_Valid_l28 F a0_n F 0)))
def flow_valid (F : Nat) (a0_n : SNet) (a1_source : Int) (a2_sink : Int) : Option Int :=
  (flow_Valid F a0_n).bind fun c_1 => bif (!decide (c_1 = 0)) then (some c_1) else ((flow_isNode F a0_n a1_source).bind fun c_4 => bif (!c_4) then (some 2) else ((flow_isNode F a0_n a2_sink).bind fun c_7 => bif (!c_7) then (some 2) else (bif decide (a1_source = a2_sink) then (some 2) else (some 0))))
def flow_build_own_p6 (a0_n : SNet) (o1_4 : List SEdge) (o2_5 : List (List Int)) : Option ((List SEdge) × (List (List Int)) × (List Int) × (List Int)) :=
  some ((o1_4, o2_5, List.replicate a0_n.Nodes.toNat (0 : Int), List.replicate a0_n.Nodes.toNat (0 : Int)))
def flow_build_own_b36 (a0_n : SNet) (kl_n_36 : Int → (List SEdge) → (List (List Int)) → Option ((List SEdge) × (List (List Int)) × (List Int) × (List Int))) (t20_20 : Int) (o1_21 : List SEdge) (o2_22 : List (List Int)) : Option ((List SEdge) × (List (List Int)) × (List Int) × (List Int)) :=
  bif decide (t20_20 < ((a0_n.Arcs).length : Int)) then (guard ((0 : Int) ≤ t20_20 ∧ t20_20 < ((a0_n.Arcs).length : Int)) (guard (((o1_21).length + ([SEdge.mk ((a0_n.Arcs.getD t20_20.toNat dSArc).To) ((a0_n.Arcs.getD t20_20.toNat dSArc).Cap), SEdge.mk ((a0_n.Arcs.getD t20_20.toNat dSArc).From) 0]).length) * 16 ≤ 140737488355328 ∧ (o1_21).length + ([SEdge.mk ((a0_n.Arcs.getD t20_20.toNat dSArc).To) ((a0_n.Arcs.getD t20_20.toNat dSArc).Cap), SEdge.mk ((a0_n.Arcs.getD t20_20.toNat dSArc).From) 0]).length ≤ 140737488355328) (guard ((0 : Int) ≤ (a0_n.Arcs.getD t20_20.toNat dSArc).From ∧ (a0_n.Arcs.getD t20_20.toNat dSArc).From < ((o2_22).length : Int)) (guard ((0 : Int) ≤ (a0_n.Arcs.getD t20_20.toNat dSArc).From ∧ (a0_n.Arcs.getD t20_20.toNat dSArc).From < ((o2_22).length : Int)) (guard (((o2_22.getD (((a0_n.Arcs.getD t20_20.toNat dSArc).From).toNat) []).length + ([IntKind.wrap .i64 (2 * t20_20)]).length) * 8 ≤ 140737488355328 ∧ (o2_22.getD (((a0_n.Arcs.getD t20_20.toNat dSArc).From).toNat) []).length + ([IntKind.wrap .i64 (2 * t20_20)]).length ≤ 140737488355328) (guard ((0 : Int) ≤ (a0_n.Arcs.getD t20_20.toNat dSArc).From ∧ (a0_n.Arcs.getD t20_20.toNat dSArc).From < ((o2_22).length : Int)) (guard ((0 : Int) ≤ (a0_n.Arcs.getD t20_20.toNat dSArc).To ∧ (a0_n.Arcs.getD t20_20.toNat dSArc).To < ((o2_22.set (((a0_n.Arcs.getD t20_20.toNat dSArc).From).toNat) ((o2_22.getD (((a0_n.Arcs.getD t20_20.toNat dSArc).From).toNat) []) ++ ([IntKind.wrap .i64 (2 * t20_20)]))).length : Int)) (guard ((0 : Int) ≤ (a0_n.Arcs.getD t20_20.toNat dSArc).To ∧ (a0_n.Arcs.getD t20_20.toNat dSArc).To < ((o2_22.set (((a0_n.Arcs.getD t20_20.toNat dSArc).From).toNat) ((o2_22.getD (((a0_n.Arcs.getD t20_20.toNat dSArc).From).toNat) []) ++ ([IntKind.wrap .i64 (2 * t20_20)]))).length : Int)) (guard ((((o2_22.set (((a0_n.Arcs.getD t20_20.toNat dSArc).From).toNat) ((o2_22.getD (((a0_n.Arcs.getD t20_20.toNat dSArc).From).toNat) []) ++ ([IntKind.wrap .i64 (2 * t20_20)]))).getD (((a0_n.Arcs.getD t20_20.toNat dSArc).To).toNat) []).length + ([IntKind.wrap .i64 (IntKind.wrap .i64 (2 * t20_20) + 1)]).length) * 8 ≤ 140737488355328 ∧ ((o2_22.set (((a0_n.Arcs.getD t20_20.toNat dSArc).From).toNat) ((o2_22.getD (((a0_n.Arcs.getD t20_20.toNat dSArc).From).toNat) []) ++ ([IntKind.wrap .i64 (2 * t20_20)]))).getD (((a0_n.Arcs.getD t20_20.toNat dSArc).To).toNat) []).length + ([IntKind.wrap .i64 (IntKind.wrap .i64 (2 * t20_20) + 1)]).length ≤ 140737488355328) (guard ((0 : Int) ≤ (a0_n.Arcs.getD t20_20.toNat dSArc).To ∧ (a0_n.Arcs.getD t20_20.toNat dSArc).To < ((o2_22.set (((a0_n.Arcs.getD t20_20.toNat dSArc).From).toNat) ((o2_22.getD (((a0_n.Arcs.getD t20_20.toNat dSArc).From).toNat) []) ++ ([IntKind.wrap .i64 (2 * t20_20)]))).length : Int)) (kl_n_36 (IntKind.wrap .i64 (t20_20 + 1)) (o1_21 ++ ([SEdge.mk ((a0_n.Arcs.getD t20_20.toNat dSArc).To) ((a0_n.Arcs.getD t20_20.toNat dSArc).Cap), SEdge.mk ((a0_n.Arcs.getD t20_20.toNat dSArc).From) 0])) ((o2_22.set (((a0_n.Arcs.getD t20_20.toNat dSArc).From).toNat) ((o2_22.getD (((a0_n.Arcs.getD t20_20.toNat dSArc).From).toNat) []) ++ ([IntKind.wrap .i64 (2 * t20_20)]))).set (((a0_n.Arcs.getD t20_20.toNat dSArc).To).toNat) (((o2_22.set (((a0_n.Arcs.getD t20_20.toNat dSArc).From).toNat) ((o2_22.getD (((a0_n.Arcs.getD t20_20.toNat dSArc).From).toNat) []) ++ ([IntKind.wrap .i64 (2 * t20_20)]))).getD (((a0_n.Arcs.getD t20_20.toNat dSArc).To).toNat) []) ++ ([IntKind.wrap .i64 (IntKind.wrap .i64 (2 * t20_20) + 1)])))))))))))))) else (flow_build_own_p6 a0_n o1_21 o2_22)
def flow_build_own_l36 (a0_n : SNet) : Nat → Int → (List SEdge) → (List (List Int)) → Option ((List SEdge) × (List (List Int)) × (List Int) × (List Int))
  | 0, _, _, _ => none
  | n + 1, t20_20, o1_21, o2_22 => flow_build_own_b36 a0_n (fun t20_20 o1_21 o2_22 => flow_build_own_l36 a0_n n t20_20 o1_21 o2_22) t20_20 o1_21 o2_22
def flow_build_own (F : Nat) (a0_n : SNet) : Option ((List SEdge) × (List (List Int)) × (List Int) × (List Int)) :=
  guard ((0 : Int) ≤ a0_n.Nodes ∧ ((24 : Nat) : Int) * a0_n.Nodes ≤ 281474976710656 ∧ (a0_n.Nodes : Int) ≤ 281474976710656) (guard ((0 : Int) ≤ a0_n.Nodes ∧ ((8 : Nat) : Int) * a0_n.Nodes ≤ 281474976710656 ∧ (a0_n.Nodes : Int) ≤ 281474976710656) (guard ((0 : Int) ≤ a0_n.Nodes ∧ ((8 : Nat) : Int) * a0_n.Nodes ≤ 281474976710656 ∧ (a0_n.Nodes : Int) ≤ 281474976710656) (flow_build_own_l36 a0_n F 0 (([] : List SEdge)) (List.replicate a0_n.Nodes.toNat ([] : List Int)))))
def flow_graph_search_p6 (a2_sink : Int) (o3_2 : List Int) (o2_4 : List Int) : Option (Bool × (List Int) × (List Int)) :=
  guard ((0 : Int) ≤ a2_sink ∧ a2_sink < ((o2_4).length : Int)) (some ((decide (0 ≤ o2_4.getD a2_sink.toNat 0), o2_4, o3_2)))
def flow_graph_search_p118 (i_59 : Int) (kl_n_114 : Int → (List Int) → (List Int) → Option (Bool × (List Int) × (List Int))) (o2_116 : List Int) (o4_117 : List Int) : Option (Bool × (List Int) × (List Int)) :=
  kl_n_114 (IntKind.wrap .i64 (i_59 + 1)) o2_116 o4_117
def flow_graph_search_p156 (t61_135 : Int) (kl_n_152 : Int → (List Int) → (List Int) → Option (Bool × (List Int) × (List Int))) (o2_154 : List Int) (o4_155 : List Int) : Option (Bool × (List Int) × (List Int)) :=
  kl_n_152 (IntKind.wrap .i64 (t61_135 + 1)) o2_154 o4_155
def flow_graph_search_b152 (a0_g_edges : List SEdge) (a0_g_out : List (List Int)) (a2_sink : Int) (o3_2 : List Int) (i_59 : Int) (o4_61 : List Int) (kl_n_114 : Int → (List Int) → (List Int) → Option (Bool × (List Int) × (List Int))) (kl_n_152 : Int → (List Int) → (List Int) → Option (Bool × (List Int) × (List Int))) (t61_135 : Int) (o2_136 : List Int) (o4_137 : List Int) : Option (Bool × (List Int) × (List Int)) :=
  bif decide (t61_135 < ((a0_g_out.getD (o4_61.getD i_59.toNat 0).toNat ([])).length : Int)) then (guard ((0 : Int) ≤ t61_135 ∧ t61_135 < ((a0_g_out.getD (o4_61.getD i_59.toNat 0).toNat ([])).length : Int)) (guard ((0 : Int) ≤ (a0_g_out.getD (o4_61.getD i_59.toNat 0).toNat ([])).getD t61_135.toNat 0 ∧ (a0_g_out.getD (o4_61.getD i_59.toNat 0).toNat ([])).getD t61_135.toNat 0 < ((a0_g_edges).length : Int)) (guard ((0 : Int) ≤ (a0_g_out.getD (o4_61.getD i_59.toNat 0).toNat ([])).getD t61_135.toNat 0 ∧ (a0_g_out.getD (o4_61.getD i_59.toNat 0).toNat ([])).getD t61_135.toNat 0 < ((a0_g_edges).length : Int)) (bif decide ((a0_g_edges.getD (((a0_g_out.getD (o4_61.getD i_59.toNat 0).toNat ([])).getD t61_135.toNat 0).toNat) dSEdge).room = 0) then (flow_graph_search_p156 t61_135 kl_n_152 o2_136 o4_137) else (guard ((0 : Int) ≤ (a0_g_edges.getD (((a0_g_out.getD (o4_61.getD i_59.toNat 0).toNat ([])).getD t61_135.toNat 0).toNat) dSEdge).to ∧ (a0_g_edges.getD (((a0_g_out.getD (o4_61.getD i_59.toNat 0).toNat ([])).getD t61_135.toNat 0).toNat) dSEdge).to < ((o2_136).length : Int)) (bif decide (0 ≤ o2_136.getD (((a0_g_edges.getD (((a0_g_out.getD (o4_61.getD i_59.toNat 0).toNat ([])).getD t61_135.toNat 0).toNat) dSEdge).to).toNat) 0) then (flow_graph_search_p156 t61_135 kl_n_152 o2_136 o4_137) else (guard ((0 : Int) ≤ o4_61.getD i_59.toNat 0 ∧ o4_61.getD i_59.toNat 0 < ((o2_136).length : Int)) (guard ((0 : Int) ≤ (a0_g_edges.getD (((a0_g_out.getD (o4_61.getD i_59.toNat 0).toNat ([])).getD t61_135.toNat 0).toNat) dSEdge).to ∧ (a0_g_edges.getD (((a0_g_out.getD (o4_61.getD i_59.toNat 0).toNat ([])).getD t61_135.toNat 0).toNat) dSEdge).to < ((o2_136).length : Int)) (bif decide ((a0_g_edges.getD (((a0_g_out.getD (o4_61.getD i_59.toNat 0).toNat ([])).getD t61_135.toNat 0).toNat) dSEdge).to = a2_sink) then (flow_graph_search_p6 a2_sink o3_2 (o2_136.set (((a0_g_edges.getD (((a0_g_out.getD (o4_61.getD i_59.toNat 0).toNat ([])).getD t61_135.toNat 0).toNat) dSEdge).to).toNat) (IntKind.wrap .i64 (o2_136.getD ((o4_61.getD i_59.toNat 0).toNat) 0 + 1)))) else (guard (((o4_137).length + ([(a0_g_edges.getD (((a0_g_out.getD (o4_61.getD i_59.toNat 0).toNat ([])).getD t61_135.toNat 0).toNat) dSEdge).to]).length) * 8 ≤ 140737488355328 ∧ (o4_137).length + ([(a0_g_edges.getD (((a0_g_out.getD (o4_61.getD i_59.toNat 0).toNat ([])).getD t61_135.toNat 0).toNat) dSEdge).to]).length ≤ 140737488355328) (flow_graph_search_p156 t61_135 kl_n_152 (o2_136.set (((a0_g_edges.getD (((a0_g_out.getD (o4_61.getD i_59.toNat 0).toNat ([])).getD t61_135.toNat 0).toNat) dSEdge).to).toNat) (IntKind.wrap .i64 (o2_136.getD ((o4_61.getD i_59.toNat 0).toNat) 0 + 1))) (o4_137 ++ ([(a0_g_edges.getD (((a0_g_out.getD (o4_61.getD i_59.toNat 0).toNat ([])).getD t61_135.toNat 0).toNat) dSEdge).to]))))))))))))) else (flow_graph_search_p118 i_59 kl_n_114 o2_136 o4_137)
def flow_graph_search_l152 (a0_g_edges : List SEdge) (a0_g_out : List (List Int)) (a2_sink : Int) (o3_2 : List Int) (i_59 : Int) (o4_61 : List Int) (kl_n_114 : Int → (List Int) → (List Int) → Option (Bool × (List Int) × (List Int))) : Nat → Int → (List Int) → (List Int) → Option (Bool × (List Int) × (List Int))
  | 0, _, _, _ => none
  | n + 1, t61_135, o2_136, o4_137 => flow_graph_search_b152 a0_g_edges a0_g_out a2_sink o3_2 i_59 o4_61 kl_n_114 (fun t61_135 o2_136 o4_137 => flow_graph_search_l152 a0_g_edges a0_g_out a2_sink o3_2 i_59 o4_61 kl_n_114 n t61_135 o2_136 o4_137) t61_135 o2_136 o4_137
def flow_graph_search_b114 (F : Nat) (a0_g_edges : List SEdge) (a0_g_out : List (List Int)) (a2_sink : Int) (o3_2 : List Int) (kl_n_114 : Int → (List Int) → (List Int) → Option (Bool × (List Int) × (List Int))) (i_59 : Int) (o2_60 : List Int) (o4_61 : List Int) : Option (Bool × (List Int) × (List Int)) :=
  bif decide (i_59 < ((o4_61).length : Int)) then (guard ((0 : Int) ≤ i_59 ∧ i_59 < ((o4_61).length : Int)) (guard ((0 : Int) ≤ o4_61.getD i_59.toNat 0 ∧ o4_61.getD i_59.toNat 0 < ((a0_g_out).length : Int)) (flow_graph_search_l152 a0_g_edges a0_g_out a2_sink o3_2 i_59 o4_61 kl_n_114 F 0 o2_60 o4_61))) else (flow_graph_search_p6 a2_sink o3_2 o2_60)
def flow_graph_search_l114 (F : Nat) (a0_g_edges : List SEdge) (a0_g_out : List (List Int)) (a2_sink : Int) (o3_2 : List Int) : Nat → Int → (List Int) → (List Int) → Option (Bool × (List Int) × (List Int))
  | 0, _, _, _ => none
  | n + 1, i_59, o2_60, o4_61 => flow_graph_search_b114 F a0_g_edges a0_g_out a2_sink o3_2 (fun i_59 o2_60 o4_61 => flow_graph_search_l114 F a0_g_edges a0_g_out a2_sink o3_2 n i_59 o2_60 o4_61) i_59 o2_60 o4_61
def flow_graph_search_p167 (F : Nat) (a0_g_edges : List SEdge) (a0_g_out : List (List Int)) (a1_source : Int) (a2_sink : Int) (o2_1 : List Int) (o3_2 : List Int) : Option (Bool × (List Int) × (List Int)) :=
  guard ((0 : Int) ≤ a1_source ∧ a1_source < ((o2_1).length : Int)) (flow_graph_search_l114 F a0_g_edges a0_g_out a2_sink o3_2 F 0 (o2_1.set a1_source.toNat 0) ([a1_source]))
def flow_graph_search_b177 (F : Nat) (a0_g_edges : List SEdge) (a0_g_out : List (List Int)) (a0_g_level : List Int) (a1_source : Int) (a2_sink : Int) (kl_n_177 : Int → (List Int) → (List Int) → Option (Bool × (List Int) × (List Int))) (t19_171 : Int) (o2_172 : List Int) (o3_173 : List Int) : Option (Bool × (List Int) × (List Int)) :=
  bif decide (t19_171 < ((a0_g_level).length : Int)) then (guard ((0 : Int) ≤ t19_171 ∧ t19_171 < ((o2_172).length : Int)) (guard ((0 : Int) ≤ t19_171 ∧ t19_171 < ((o3_173).length : Int)) (kl_n_177 (IntKind.wrap .i64 (t19_171 + 1)) (o2_172.set t19_171.toNat ((-1))) (o3_173.set t19_171.toNat 0)))) else (flow_graph_search_p167 F a0_g_edges a0_g_out a1_source a2_sink o2_172 o3_173)
def flow_graph_search_l177 (F : Nat) (a0_g_edges : List SEdge) (a0_g_out : List (List Int)) (a0_g_level : List Int) (a1_source : Int) (a2_sink : Int) : Nat → Int → (List Int) → (List Int) → Option (Bool × (List Int) × (List Int))
  | 0, _, _, _ => none
  | n + 1, t19_171, o2_172, o3_173 => flow_graph_search_b177 F a0_g_edges a0_g_out a0_g_level a1_source a2_sink (fun t19_171 o2_172 o3_173 => flow_graph_search_l177 F a0_g_edges a0_g_out a0_g_level a1_source a2_sink n t19_171 o2_172 o3_173) t19_171 o2_172 o3_173
def flow_graph_search (F : Nat) (a0_g_edges : List SEdge) (a0_g_out : List (List Int)) (a0_g_level : List Int) (a0_g_turn : List Int) (a1_source : Int) (a2_sink : Int) : Option (Bool × (List Int) × (List Int)) :=
  flow_graph_search_l177 F a0_g_edges a0_g_out a0_g_level a1_source a2_sink F 0 a0_g_level a0_g_turn
def flow_graph_push_p4 (o1_2 : List SEdge) (o3_3 : List Int) : Option (Int × (List SEdge) × (List Int)) :=
  some ((0, o1_2, o3_3))
def flow_graph_push_p65 (a1_u : Int) (kl_n_57 : (List SEdge) → (List Int) → Option (Int × (List SEdge) × (List Int))) (o1_61 : List SEdge) (o3_62 : List Int) : Option (Int × (List SEdge) × (List Int)) :=
  guard ((0 : Int) ≤ a1_u ∧ a1_u < ((o3_62).length : Int)) (guard ((0 : Int) ≤ a1_u ∧ a1_u < ((o3_62).length : Int)) (kl_n_57 o1_61 (o3_62.set a1_u.toNat (IntKind.wrap .i64 (o3_62.getD a1_u.toNat 0 + 1)))))
def flow_graph_push_b57 (a0_g_out : List (List Int)) (a0_g_level : List Int) (a1_u : Int) (a2_sink : Int) (a3_most : Int) (rec_ : (List SEdge) → (List (List Int)) → (List Int) → (List Int) → Int → Int → Int → Option (Int × (List SEdge) × (List Int))) (kl_n_57 : (List SEdge) → (List Int) → Option (Int × (List SEdge) × (List Int))) (o1_30 : List SEdge) (o3_31 : List Int) : Option (Int × (List SEdge) × (List Int)) :=
  guard ((0 : Int) ≤ a1_u ∧ a1_u < ((o3_31).length : Int)) (guard ((0 : Int) ≤ a1_u ∧ a1_u < ((a0_g_out).length : Int)) (bif decide (o3_31.getD a1_u.toNat 0 < ((a0_g_out.getD a1_u.toNat ([])).length : Int)) then (guard ((0 : Int) ≤ a1_u ∧ a1_u < ((a0_g_out).length : Int)) (guard ((0 : Int) ≤ a1_u ∧ a1_u < ((o3_31).length : Int)) (guard ((0 : Int) ≤ o3_31.getD a1_u.toNat 0 ∧ o3_31.getD a1_u.toNat 0 < ((a0_g_out.getD a1_u.toNat ([])).length : Int)) (guard ((0 : Int) ≤ (a0_g_out.getD a1_u.toNat ([])).getD (o3_31.getD a1_u.toNat 0).toNat 0 ∧ (a0_g_out.getD a1_u.toNat ([])).getD (o3_31.getD a1_u.toNat 0).toNat 0 < ((o1_30).length : Int)) (guard ((0 : Int) ≤ (a0_g_out.getD a1_u.toNat ([])).getD (o3_31.getD a1_u.toNat 0).toNat 0 ∧ (a0_g_out.getD a1_u.toNat ([])).getD (o3_31.getD a1_u.toNat 0).toNat 0 < ((o1_30).length : Int)) (bif decide ((o1_30.getD (((a0_g_out.getD a1_u.toNat ([])).getD (o3_31.getD a1_u.toNat 0).toNat 0).toNat) dSEdge).room = 0) then (flow_graph_push_p65 a1_u kl_n_57 o1_30 o3_31) else (guard ((0 : Int) ≤ (o1_30.getD (((a0_g_out.getD a1_u.toNat ([])).getD (o3_31.getD a1_u.toNat 0).toNat 0).toNat) dSEdge).to ∧ (o1_30.getD (((a0_g_out.getD a1_u.toNat ([])).getD (o3_31.getD a1_u.toNat 0).toNat 0).toNat) dSEdge).to < ((a0_g_level).length : Int)) (guard ((0 : Int) ≤ a1_u ∧ a1_u < ((a0_g_level).length : Int)) (bif (!decide (a0_g_level.getD (((o1_30.getD (((a0_g_out.getD a1_u.toNat ([])).getD (o3_31.getD a1_u.toNat 0).toNat 0).toNat) dSEdge).to).toNat) 0 = IntKind.wrap .i64 (a0_g_level.getD a1_u.toNat 0 + 1))) then (flow_graph_push_p65 a1_u kl_n_57 o1_30 o3_31) else (guard ((0 : Int) ≤ (a0_g_out.getD a1_u.toNat ([])).getD (o3_31.getD a1_u.toNat 0).toNat 0 ∧ (a0_g_out.getD a1_u.toNat ([])).getD (o3_31.getD a1_u.toNat 0).toNat 0 < ((o1_30).length : Int)) ((rec_ o1_30 a0_g_out a0_g_level o3_31 ((o1_30.getD (((a0_g_out.getD a1_u.toNat ([])).getD (o3_31.getD a1_u.toNat 0).toNat 0).toNat) dSEdge).to) a2_sink ((if (o1_30.getD (((a0_g_out.getD a1_u.toNat ([])).getD (o3_31.getD a1_u.toNat 0).toNat 0).toNat) dSEdge).room < a3_most then (o1_30.getD (((a0_g_out.getD a1_u.toNat ([])).getD (o3_31.getD a1_u.toNat 0).toNat 0).toNat) dSEdge).room else a3_most))).bind fun c_76 => bif decide (0 < c_76.1) then (guard ((0 : Int) ≤ (a0_g_out.getD a1_u.toNat ([])).getD (o3_31.getD a1_u.toNat 0).toNat 0 ∧ (a0_g_out.getD a1_u.toNat ([])).getD (o3_31.getD a1_u.toNat 0).toNat 0 < ((c_76.2.1).length : Int)) (guard ((0 : Int) ≤ (a0_g_out.getD a1_u.toNat ([])).getD (o3_31.getD a1_u.toNat 0).toNat 0 ∧ (a0_g_out.getD a1_u.toNat ([])).getD (o3_31.getD a1_u.toNat 0).toNat 0 < ((c_76.2.1).length : Int)) (guard ((0 : Int) ≤ iXor .i64 ((a0_g_out.getD a1_u.toNat ([])).getD (o3_31.getD a1_u.toNat 0).toNat 0) 1 ∧ iXor .i64 ((a0_g_out.getD a1_u.toNat ([])).getD (o3_31.getD a1_u.toNat 0).toNat 0) 1 < ((c_76.2.1.set (((a0_g_out.getD a1_u.toNat ([])).getD (o3_31.getD a1_u.toNat 0).toNat 0).toNat) (SEdge.mk ((c_76.2.1.getD (((a0_g_out.getD a1_u.toNat ([])).getD (o3_31.getD a1_u.toNat 0).toNat 0).toNat) dSEdge).to) (IntKind.wrap .i64 ((c_76.2.1.getD (((a0_g_out.getD a1_u.toNat ([])).getD (o3_31.getD a1_u.toNat 0).toNat 0).toNat) dSEdge).room - c_76.1)))).length : Int)) (guard ((0 : Int) ≤ iXor .i64 ((a0_g_out.getD a1_u.toNat ([])).getD (o3_31.getD a1_u.toNat 0).toNat 0) 1 ∧ iXor .i64 ((a0_g_out.getD a1_u.toNat ([])).getD (o3_31.getD a1_u.toNat 0).toNat 0) 1 < ((c_76.2.1.set (((a0_g_out.getD a1_u.toNat ([])).getD (o3_31.getD a1_u.toNat 0).toNat 0).toNat) (SEdge.mk ((c_76.2.1.getD (((a0_g_out.getD a1_u.toNat ([])).getD (o3_31.getD a1_u.toNat 0).toNat 0).toNat) dSEdge).to) (IntKind.wrap .i64 ((c_76.2.1.getD (((a0_g_out.getD a1_u.toNat ([])).getD (o3_31.getD a1_u.toNat 0).toNat 0).toNat) dSEdge).room - c_76.1)))).length : Int)) (some ((c_76.1, (c_76.2.1.set (((a0_g_out.getD a1_u.toNat ([])).getD (o3_31.getD a1_u.toNat 0).toNat 0).toNat) (SEdge.mk ((c_76.2.1.getD (((a0_g_out.getD a1_u.toNat ([])).getD (o3_31.getD a1_u.toNat 0).toNat 0).toNat) dSEdge).to) (IntKind.wrap .i64 ((c_76.2.1.getD (((a0_g_out.getD a1_u.toNat ([])).getD (o3_31.getD a1_u.toNat 0).toNat 0).toNat) dSEdge).room - c_76.1)))).set ((iXor .i64 ((a0_g_out.getD a1_u.toNat ([])).getD (o3_31.getD a1_u.toNat 0).toNat 0) 1).toNat) (SEdge.mk (((c_76.2.1.set (((a0_g_out.getD a1_u.toNat ([])).getD (o3_31.getD a1_u.toNat 0).toNat 0).toNat) (SEdge.mk ((c_76.2.1.getD (((a0_g_out.getD a1_u.toNat ([])).getD (o3_31.getD a1_u.toNat 0).toNat 0).toNat) dSEdge).to) (IntKind.wrap .i64 ((c_76.2.1.getD (((a0_g_out.getD a1_u.toNat ([])).getD (o3_31.getD a1_u.toNat 0).toNat 0).toNat) dSEdge).room - c_76.1)))).getD ((iXor .i64 ((a0_g_out.getD a1_u.toNat ([])).getD (o3_31.getD a1_u.toNat 0).toNat 0) 1).toNat) dSEdge).to) (IntKind.wrap .i64 (((c_76.2.1.set (((a0_g_out.getD a1_u.toNat ([])).getD (o3_31.getD a1_u.toNat 0).toNat 0).toNat) (SEdge.mk ((c_76.2.1.getD (((a0_g_out.getD a1_u.toNat ([])).getD (o3_31.getD a1_u.toNat 0).toNat 0).toNat) dSEdge).to) (IntKind.wrap .i64 ((c_76.2.1.getD (((a0_g_out.getD a1_u.toNat ([])).getD (o3_31.getD a1_u.toNat 0).toNat 0).toNat) dSEdge).room - c_76.1)))).getD ((iXor .i64 ((a0_g_out.getD a1_u.toNat ([])).getD (o3_31.getD a1_u.toNat 0).toNat 0) 1).toNat) dSEdge).room + c_76.1))), c_76.2.2))))))) else (flow_graph_push_p65 a1_u kl_n_57 c_76.2.1 c_76.2.2)))))))))))) else (flow_graph_push_p4 o1_30 o3_31)))
def flow_graph_push_l57 (a0_g_out : List (List Int)) (a0_g_level : List Int) (a1_u : Int) (a2_sink : Int) (a3_most : Int) (rec_ : (List SEdge) → (List (List Int)) → (List Int) → (List Int) → Int → Int → Int → Option (Int × (List SEdge) × (List Int))) : Nat → (List SEdge) → (List Int) → Option (Int × (List SEdge) × (List Int))
  | 0, _, _ => none
  | n + 1, o1_30, o3_31 => flow_graph_push_b57 a0_g_out a0_g_level a1_u a2_sink a3_most rec_ (fun o1_30 o3_31 => flow_graph_push_l57 a0_g_out a0_g_level a1_u a2_sink a3_most rec_ n o1_30 o3_31) o1_30 o3_31
def flow_graph_push_r (F : Nat) (rec_ : (List SEdge) → (List (List Int)) → (List Int) → (List Int) → Int → Int → Int → Option (Int × (List SEdge) × (List Int))) (a0_g_edges : List SEdge) (a0_g_out : List (List Int)) (a0_g_level : List Int) (a0_g_turn : List Int) (a1_u : Int) (a2_sink : Int) (a3_most : Int) : Option (Int × (List SEdge) × (List Int)) :=
  bif decide (a1_u = a2_sink) then (some ((a3_most, a0_g_edges, a0_g_turn))) else (flow_graph_push_l57 a0_g_out a0_g_level a1_u a2_sink a3_most rec_ F a0_g_edges a0_g_turn)
def flow_graph_push : Nat → (List SEdge) → (List (List Int)) → (List Int) → (List Int) → Int → Int → Int → Option (Int × (List SEdge) × (List Int))
  | 0, _, _, _, _, _, _, _ => none
  | F + 1, a0_g_edges, a0_g_out, a0_g_level, a0_g_turn, a1_u, a2_sink, a3_most => flow_graph_push_r F (fun a0_g_edges a0_g_out a0_g_level a0_g_turn a1_u a2_sink a3_most => flow_graph_push F a0_g_edges a0_g_out a0_g_level a0_g_turn a1_u a2_sink a3_most) a0_g_edges a0_g_out a0_g_level a0_g_turn a1_u a2_sink a3_most
def flow_graph_run_p5 (value_1 : Int) (o1_2 : List SEdge) (o2_3 : List Int) (o3_4 : List Int) : Option (Int × (List SEdge) × (List Int) × (List Int)) :=
  some ((value_1, o1_2, o2_3, o3_4))
def flow_graph_run_b82 (F : Nat) (a0_g_out : List (List Int)) (a1_source : Int) (a2_sink : Int) (kl_n_66 : Int → (List SEdge) → (List Int) → (List Int) → Option (Int × (List SEdge) × (List Int) × (List Int))) (c_67 : Bool × (List Int) × (List Int)) (kl_n_82 : Int → Int → (List SEdge) → (List Int) → Option (Int × (List SEdge) × (List Int) × (List Int))) (value_75 : Int) (n_76 : Int) (o1_77 : List SEdge) (o3_78 : List Int) : Option (Int × (List SEdge) × (List Int) × (List Int)) :=
  bif decide (0 < n_76) then ((flow_graph_push F o1_77 a0_g_out c_67.2.1 o3_78 a1_source a2_sink 4611686018427387904).bind fun c_84 => kl_n_82 (IntKind.wrap .i64 (value_75 + n_76)) c_84.1 c_84.2.1 c_84.2.2) else (kl_n_66 value_75 o1_77 c_67.2.1 o3_78)
def flow_graph_run_l82 (F : Nat) (a0_g_out : List (List Int)) (a1_source : Int) (a2_sink : Int) (kl_n_66 : Int → (List SEdge) → (List Int) → (List Int) → Option (Int × (List SEdge) × (List Int) × (List Int))) (c_67 : Bool × (List Int) × (List Int)) : Nat → Int → Int → (List SEdge) → (List Int) → Option (Int × (List SEdge) × (List Int) × (List Int))
  | 0, _, _, _, _ => none
  | n + 1, value_75, n_76, o1_77, o3_78 => flow_graph_run_b82 F a0_g_out a1_source a2_sink kl_n_66 c_67 (fun value_75 n_76 o1_77 o3_78 => flow_graph_run_l82 F a0_g_out a1_source a2_sink kl_n_66 c_67 n value_75 n_76 o1_77 o3_78) value_75 n_76 o1_77 o3_78
def flow_graph_run_b66 (F : Nat) (a0_g_out : List (List Int)) (a1_source : Int) (a2_sink : Int) (kl_n_66 : Int → (List SEdge) → (List Int) → (List Int) → Option (Int × (List SEdge) × (List Int) × (List Int))) (value_43 : Int) (o1_44 : List SEdge) (o2_45 : List Int) (o3_46 : List Int) : Option (Int × (List SEdge) × (List Int) × (List Int)) :=
  (flow_graph_search F o1_44 a0_g_out o2_45 o3_46 a1_source a2_sink).bind fun c_67 => bif c_67.1 then ((flow_graph_push F o1_44 a0_g_out c_67.2.1 c_67.2.2 a1_source a2_sink 4611686018427387904).bind fun c_70 => flow_graph_run_l82 F a0_g_out a1_source a2_sink kl_n_66 c_67 F value_43 c_70.1 c_70.2.1 c_70.2.2) else (flow_graph_run_p5 value_43 o1_44 c_67.2.1 c_67.2.2)
def flow_graph_run_l66 (F : Nat) (a0_g_out : List (List Int)) (a1_source : Int) (a2_sink : Int) : Nat → Int → (List SEdge) → (List Int) → (List Int) → Option (Int × (List SEdge) × (List Int) × (List Int))
  | 0, _, _, _, _ => none
  | n + 1, value_43, o1_44, o2_45, o3_46 => flow_graph_run_b66 F a0_g_out a1_source a2_sink (fun value_43 o1_44 o2_45 o3_46 => flow_graph_run_l66 F a0_g_out a1_source a2_sink n value_43 o1_44 o2_45 o3_46) value_43 o1_44 o2_45 o3_46
def flow_graph_run (F : Nat) (a0_g_edges : List SEdge) (a0_g_out : List (List Int)) (a0_g_level : List Int) (a0_g_turn : List Int) (a1_source : Int) (a2_sink : Int) : Option (Int × (List SEdge) × (List Int) × (List Int)) :=
  flow_graph_run_l66 F a0_g_out a1_source a2_sink F 0 a0_g_edges a0_g_level a0_g_turn
def flow_Max_own_p10 (c_6 : Int × (List SEdge) × (List Int) × (List Int)) (o0_9 : List Int) : Option (Int × (List Int) × Int) :=
  some ((c_6.1, o0_9, 0))
def flow_Max_own_b19 (a0_n : SNet) (c_6 : Int × (List SEdge) × (List Int) × (List Int)) (kl_n_19 : Int → (List Int) → Option (Int × (List Int) × Int)) (t33_14 : Int) (o4_15 : List Int) : Option (Int × (List Int) × Int) :=
  bif decide (t33_14 < ((List.replicate (((a0_n.Arcs).length : Int)).toNat (0 : Int)).length : Int)) then (guard ((0 : Int) ≤ IntKind.wrap .i64 (IntKind.wrap .i64 (2 * t33_14) + 1) ∧ IntKind.wrap .i64 (IntKind.wrap .i64 (2 * t33_14) + 1) < ((c_6.2.1).length : Int)) (guard ((0 : Int) ≤ t33_14 ∧ t33_14 < ((o4_15).length : Int)) (kl_n_19 (IntKind.wrap .i64 (t33_14 + 1)) (o4_15.set t33_14.toNat ((c_6.2.1.getD ((IntKind.wrap .i64 (IntKind.wrap .i64 (2 * t33_14) + 1)).toNat) dSEdge).room))))) else (flow_Max_own_p10 c_6 o4_15)
def flow_Max_own_l19 (a0_n : SNet) (c_6 : Int × (List SEdge) × (List Int) × (List Int)) : Nat → Int → (List Int) → Option (Int × (List Int) × Int)
  | 0, _, _ => none
  | n + 1, t33_14, o4_15 => flow_Max_own_b19 a0_n c_6 (fun t33_14 o4_15 => flow_Max_own_l19 a0_n c_6 n t33_14 o4_15) t33_14 o4_15
def flow_Max_own (F : Nat) (a0_n : SNet) (a1_source : Int) (a2_sink : Int) : Option (Int × (List Int) × Int) :=
  (flow_valid F a0_n a1_source a2_sink).bind fun c_1 => bif (!decide (c_1 = 0)) then (some ((0, ([] : List Int), c_1))) else ((flow_build_own F a0_n).bind fun c_4 => (flow_graph_run F c_4.1 c_4.2.1 c_4.2.2.1 c_4.2.2.2 a1_source a2_sink).bind fun c_6 => guard ((0 : Int) ≤ ((a0_n.Arcs).length : Int) ∧ ((8 : Nat) : Int) * (((a0_n.Arcs).length : Int)) ≤ 281474976710656 ∧ (((a0_n.Arcs).length : Int) : Int) ≤ 281474976710656) (flow_Max_own_l19 a0_n c_6 F 0 (List.replicate (((a0_n.Arcs).length : Int)).toNat (0 : Int))))
def plan_route_p6 (F : Nat) (a0_n : SNet) (total_1 : Int) (o0_2 : List SArc) : Option ((List Int) × Bool × (List SArc)) :=
  (flow_Max_own F (SNet.mk a0_n.Nodes o0_2) 0 1).bind fun c_3 => bif decide (c_3.2.2 = 0) then (some ((c_3.2.1, decide (c_3.1 = total_1), o0_2))) else (some ((c_3.2.1, false, o0_2)))
def plan_route_b16 (F : Nat) (a0_n : SNet) (a1_energy : List Int) (kl_n_16 : Int → Int → (List SArc) → Option ((List Int) × Bool × (List SArc))) (total_10 : Int) (t14_11 : Int) (o0_12 : List SArc) : Option ((List Int) × Bool × (List SArc)) :=
  bif decide (t14_11 < ((a1_energy).length : Int)) then (guard ((0 : Int) ≤ t14_11 ∧ t14_11 < ((a1_energy).length : Int)) (guard ((0 : Int) ≤ t14_11 ∧ t14_11 < ((o0_12).length : Int)) (kl_n_16 (IntKind.wrap .i64 (total_10 + a1_energy.getD t14_11.toNat 0)) (IntKind.wrap .i64 (t14_11 + 1)) (o0_12.set t14_11.toNat (SArc.mk ((o0_12.getD t14_11.toNat dSArc).From) ((o0_12.getD t14_11.toNat dSArc).To) (a1_energy.getD t14_11.toNat 0)))))) else (plan_route_p6 F a0_n total_10 o0_12)
def plan_route_l16 (F : Nat) (a0_n : SNet) (a1_energy : List Int) : Nat → Int → Int → (List SArc) → Option ((List Int) × Bool × (List SArc))
  | 0, _, _, _ => none
  | n + 1, total_10, t14_11, o0_12 => plan_route_b16 F a0_n a1_energy (fun total_10 t14_11 o0_12 => plan_route_l16 F a0_n a1_energy n total_10 t14_11 o0_12) total_10 t14_11 o0_12
def plan_route (F : Nat) (a0_n : SNet) (a1_energy : List Int) : Option ((List Int) × Bool × (List SArc)) :=
  plan_route_l16 F a0_n a1_energy F 0 0 a0_n.Arcs
def plan_Fair_1 (F : Nat) (a0_l : List Int) (a1b_Nodes : Int) (a1b_Arcs : List SArc) : Option (Bool × (List SArc)) :=
  (plan_route F (SNet.mk a1b_Nodes a1b_Arcs) a0_l).bind fun c_1 => guard (c_1.2.2.length = a1b_Arcs.length) (some ((c_1.2.1, c_1.2.2)))
def fair_least_int_p2 (first_1 : Int) : Option Int :=
  some first_1
def fair_least_int_p18 (t9_9 : Int) (kl_n_15 : Int → Int → Option Int) (first_17 : Int) : Option Int :=
  kl_n_15 first_17 (IntKind.wrap .i64 (t9_9 + 1))
def fair_least_int_b15 (a1_others : List Int) (kl_n_15 : Int → Int → Option Int) (first_8 : Int) (t9_9 : Int) : Option Int :=
  bif decide (t9_9 < ((a1_others).length : Int)) then (guard ((0 : Int) ≤ t9_9 ∧ t9_9 < ((a1_others).length : Int)) (bif decide (a1_others.getD t9_9.toNat 0 < first_8) then (fair_least_int_p18 t9_9 kl_n_15 (a1_others.getD t9_9.toNat 0)) else (fair_least_int_p18 t9_9 kl_n_15 first_8))) else (fair_least_int_p2 first_8)
def fair_least_int_l15 (a1_others : List Int) : Nat → Int → Int → Option Int
  | 0, _, _ => none
  | n + 1, first_8, t9_9 => fair_least_int_b15 a1_others (fun first_8 t9_9 => fair_least_int_l15 a1_others n first_8 t9_9) first_8 t9_9
def fair_least_int (F : Nat) (a0_first : Int) (a1_others : List Int) : Option Int :=
  fair_least_int_l15 a1_others F a0_first 0
def fair_division_raise_f0_p31_p28 (t11_11 : Int) (o5_12 : List Int) (kl_n_23 : Int → (List Int) → Option (List Int)) (n_26 : Int) : Option (List Int) :=
  guard ((0 : Int) ≤ t11_11 ∧ t11_11 < ((o5_12).length : Int)) (kl_n_23 (IntKind.wrap .i64 (t11_11 + 1)) (o5_12.set t11_11.toNat n_26))
def fair_division_raise_f0_p31_b23 (F : Nat) (a0_v_caps : List Int) (a0_v_x : List Int) (a0_v_active : List Bool) (a1_d : Int) (kl_n_23 : Int → (List Int) → Option (List Int)) (t11_11 : Int) (o5_12 : List Int) : Option (List Int) :=
  bif decide (t11_11 < ((a0_v_x).length : Int)) then (guard ((0 : Int) ≤ t11_11 ∧ t11_11 < ((a0_v_x).length : Int)) (guard ((0 : Int) ≤ t11_11 ∧ t11_11 < ((a0_v_active).length : Int)) (bif a0_v_active.getD t11_11.toNat false then (guard ((0 : Int) ≤ t11_11 ∧ t11_11 < ((a0_v_caps).length : Int)) ((fair_least_int F (IntKind.wrap .i64 (a0_v_x.getD t11_11.toNat 0 + a1_d)) ([a0_v_caps.getD t11_11.toNat 0])).bind fun c_32 => fair_division_raise_f0_p31_p28 t11_11 o5_12 kl_n_23 c_32)) else (fair_division_raise_f0_p31_p28 t11_11 o5_12 kl_n_23 (a0_v_x.getD t11_11.toNat 0))))) else (some o5_12)
def fair_division_raise_f0_p31_l23 (F : Nat) (a0_v_caps : List Int) (a0_v_x : List Int) (a0_v_active : List Bool) (a1_d : Int) : Nat → Int → (List Int) → Option (List Int)
  | 0, _, _ => none
  | n + 1, t11_11, o5_12 => fair_division_raise_f0_p31_b23 F a0_v_caps a0_v_x a0_v_active a1_d (fun t11_11 o5_12 => fair_division_raise_f0_p31_l23 F a0_v_caps a0_v_x a0_v_active a1_d n t11_11 o5_12) t11_11 o5_12
def fair_division_raise_f0_p31 (F : Nat) (a0_v_caps : List Int) (a0b_Nodes : Int) (a0b_Arcs : List SArc) (a0_v_x : List Int) (a0_v_active : List Bool) (a0_v_trial : List Int) (a1_d : Int) : Option (List Int) :=
  fair_division_raise_f0_p31_l23 F a0_v_caps a0_v_x a0_v_active a1_d F 0 a0_v_trial
def fair_division_raisable_f0_p31 (F : Nat) (a0_v_caps : List Int) (a0b_Nodes : Int) (a0b_Arcs : List SArc) (a0_v_x : List Int) (a0_v_active : List Bool) (a0_v_trial : List Int) (a1_d : Int) : Option (Bool × (List SArc) × (List Int)) :=
  (fair_division_raise_f0_p31 F a0_v_caps a0b_Nodes a0b_Arcs a0_v_x a0_v_active a0_v_trial a1_d).bind fun c_1 => (plan_Fair_1 F c_1 a0b_Nodes a0b_Arcs).bind fun c_3 => some ((c_3.1, c_3.2, c_1))
def fair_division_together_f0_p31_p7 (F : Nat) (a0_v_caps : List Int) (a0b_Nodes : Int) (a0_v_x : List Int) (a0_v_active : List Bool) (d_2 : Int) (o2_3 : List SArc) (o5_4 : List Int) : Option ((List SArc) × (List Int) × (List Int)) :=
  (fair_division_raise_f0_p31 F a0_v_caps a0b_Nodes o2_3 a0_v_x a0_v_active o5_4 d_2).bind fun c_5 => some ((o2_3, copyL a0_v_x 0 ((a0_v_x).length) c_5, c_5))
def fair_division_together_f0_p31_b27 (F : Nat) (a0_v_caps : List Int) (a0b_Nodes : Int) (a0_v_x : List Int) (a0_v_active : List Bool) (kl_n_27 : Int → Int → (List SArc) → (List Int) → Option ((List SArc) × (List Int) × (List Int))) (d_19 : Int) (bad_20 : Int) (o2_21 : List SArc) (o5_22 : List Int) : Option ((List SArc) × (List Int) × (List Int)) :=
  bif decide (1 < IntKind.wrap .i64 (bad_20 - d_19)) then ((fair_division_raisable_f0_p31 F a0_v_caps a0b_Nodes o2_21 a0_v_x a0_v_active o5_22 (IntKind.wrap .i64 (d_19 + IntKind.wrap .i64 (Int.tdiv (IntKind.wrap .i64 (bad_20 - d_19)) 2)))).bind fun c_29 => bif c_29.1 then (kl_n_27 (IntKind.wrap .i64 (d_19 + IntKind.wrap .i64 (Int.tdiv (IntKind.wrap .i64 (bad_20 - d_19)) 2))) bad_20 c_29.2.1 c_29.2.2) else (kl_n_27 d_19 (IntKind.wrap .i64 (d_19 + IntKind.wrap .i64 (Int.tdiv (IntKind.wrap .i64 (bad_20 - d_19)) 2))) c_29.2.1 c_29.2.2)) else (fair_division_together_f0_p31_p7 F a0_v_caps a0b_Nodes a0_v_x a0_v_active d_19 o2_21 o5_22)
def fair_division_together_f0_p31_l27 (F : Nat) (a0_v_caps : List Int) (a0b_Nodes : Int) (a0_v_x : List Int) (a0_v_active : List Bool) : Nat → Int → Int → (List SArc) → (List Int) → Option ((List SArc) × (List Int) × (List Int))
  | 0, _, _, _, _ => none
  | n + 1, d_19, bad_20, o2_21, o5_22 => fair_division_together_f0_p31_b27 F a0_v_caps a0b_Nodes a0_v_x a0_v_active (fun d_19 bad_20 o2_21 o5_22 => fair_division_together_f0_p31_l27 F a0_v_caps a0b_Nodes a0_v_x a0_v_active n d_19 bad_20 o2_21 o5_22) d_19 bad_20 o2_21 o5_22
def fair_division_together_f0_p31_p32 (F : Nat) (a0_v_caps : List Int) (a0b_Nodes : Int) (a0_v_x : List Int) (a0_v_active : List Bool) (most_1 : Int) (t45_8 : Bool) (o2_9 : List SArc) (o5_10 : List Int) : Option ((List SArc) × (List Int) × (List Int)) :=
  bif t45_8 then (fair_division_together_f0_p31_l27 F a0_v_caps a0b_Nodes a0_v_x a0_v_active F 0 most_1 o2_9 o5_10) else (fair_division_together_f0_p31_p7 F a0_v_caps a0b_Nodes a0_v_x a0_v_active most_1 o2_9 o5_10)
def fair_division_together_f0_p31_p36 (F : Nat) (a0_v_caps : List Int) (a0b_Nodes : Int) (a0b_Arcs : List SArc) (a0_v_x : List Int) (a0_v_active : List Bool) (a0_v_trial : List Int) (most_1 : Int) : Option ((List SArc) × (List Int) × (List Int)) :=
  bif decide (0 < most_1) then ((fair_division_raisable_f0_p31 F a0_v_caps a0b_Nodes a0b_Arcs a0_v_x a0_v_active a0_v_trial most_1).bind fun c_34 => fair_division_together_f0_p31_p32 F a0_v_caps a0b_Nodes a0_v_x a0_v_active most_1 ((!c_34.1)) c_34.2.1 c_34.2.2) else (fair_division_together_f0_p31_p32 F a0_v_caps a0b_Nodes a0_v_x a0_v_active most_1 false a0b_Arcs a0_v_trial)
def fair_division_together_f0_p31_p56 (t13_45 : Int) (kl_n_53 : Int → Int → Option ((List SArc) × (List Int) × (List Int))) (most_55 : Int) : Option ((List SArc) × (List Int) × (List Int)) :=
  kl_n_53 most_55 (IntKind.wrap .i64 (t13_45 + 1))
def fair_division_together_f0_p31_b53 (F : Nat) (a0_v_caps : List Int) (a0b_Nodes : Int) (a0b_Arcs : List SArc) (a0_v_x : List Int) (a0_v_active : List Bool) (a0_v_trial : List Int) (kl_n_53 : Int → Int → Option ((List SArc) × (List Int) × (List Int))) (most_44 : Int) (t13_45 : Int) : Option ((List SArc) × (List Int) × (List Int)) :=
  bif decide (t13_45 < ((a0_v_x).length : Int)) then (guard ((0 : Int) ≤ t13_45 ∧ t13_45 < ((a0_v_x).length : Int)) (guard ((0 : Int) ≤ t13_45 ∧ t13_45 < ((a0_v_active).length : Int)) (bif a0_v_active.getD t13_45.toNat false then (guard ((0 : Int) ≤ t13_45 ∧ t13_45 < ((a0_v_caps).length : Int)) (fair_division_together_f0_p31_p56 t13_45 kl_n_53 ((if most_44 < IntKind.wrap .i64 (a0_v_caps.getD t13_45.toNat 0 - a0_v_x.getD t13_45.toNat 0) then IntKind.wrap .i64 (a0_v_caps.getD t13_45.toNat 0 - a0_v_x.getD t13_45.toNat 0) else most_44)))) else (fair_division_together_f0_p31_p56 t13_45 kl_n_53 most_44)))) else (fair_division_together_f0_p31_p36 F a0_v_caps a0b_Nodes a0b_Arcs a0_v_x a0_v_active a0_v_trial most_44)
def fair_division_together_f0_p31_l53 (F : Nat) (a0_v_caps : List Int) (a0b_Nodes : Int) (a0b_Arcs : List SArc) (a0_v_x : List Int) (a0_v_active : List Bool) (a0_v_trial : List Int) : Nat → Int → Int → Option ((List SArc) × (List Int) × (List Int))
  | 0, _, _ => none
  | n + 1, most_44, t13_45 => fair_division_together_f0_p31_b53 F a0_v_caps a0b_Nodes a0b_Arcs a0_v_x a0_v_active a0_v_trial (fun most_44 t13_45 => fair_division_together_f0_p31_l53 F a0_v_caps a0b_Nodes a0b_Arcs a0_v_x a0_v_active a0_v_trial n most_44 t13_45) most_44 t13_45
def fair_division_together_f0_p31 (F : Nat) (a0_v_caps : List Int) (a0b_Nodes : Int) (a0b_Arcs : List SArc) (a0_v_x : List Int) (a0_v_active : List Bool) (a0_v_trial : List Int) : Option ((List SArc) × (List Int) × (List Int)) :=
  fair_division_together_f0_p31_l53 F a0_v_caps a0b_Nodes a0b_Arcs a0_v_x a0_v_active a0_v_trial F 0 0
def fair_division_single_f0_p31_p6 (left_1 : Bool) (o2_2 : List SArc) (o3_3 : List Int) (o4_4 : List Bool) (o5_5 : List Int) : Option (Bool × (List SArc) × (List Int) × (List Bool) × (List Int)) :=
  some ((left_1, o2_2, o3_3, o4_4, o5_5))
def fair_division_single_f0_p31_p66 (t10_31 : Int) (kl_n_59 : Bool → Int → (List SArc) → (List Int) → (List Bool) → (List Int) → Option (Bool × (List SArc) × (List Int) × (List Bool) × (List Int))) (left_61 : Bool) (o2_62 : List SArc) (o3_63 : List Int) (o4_65 : List Bool) (o5_64 : List Int) : Option (Bool × (List SArc) × (List Int) × (List Bool) × (List Int)) :=
  kl_n_59 left_61 (IntKind.wrap .i64 (t10_31 + 1)) o2_62 o3_63 o4_65 o5_64
def fair_division_single_f0_p31_p72 (left_30 : Bool) (t10_31 : Int) (o3_33 : List Int) (o4_34 : List Bool) (kl_n_59 : Bool → Int → (List SArc) → (List Int) → (List Bool) → (List Int) → Option (Bool × (List SArc) × (List Int) × (List Bool) × (List Int))) (o2_69 : List SArc) (o5_70 : List Int) : Option (Bool × (List SArc) × (List Int) × (List Bool) × (List Int)) :=
  guard ((0 : Int) ≤ t10_31 ∧ t10_31 < ((o4_34).length : Int)) (fair_division_single_f0_p31_p66 t10_31 kl_n_59 left_30 o2_69 o3_33 (o4_34.set t10_31.toNat false) o5_70)
def fair_division_single_f0_p31_b59 (F : Nat) (a0_v_caps : List Int) (a0b_Nodes : Int) (a0_v_x : List Int) (kl_n_59 : Bool → Int → (List SArc) → (List Int) → (List Bool) → (List Int) → Option (Bool × (List SArc) × (List Int) × (List Bool) × (List Int))) (left_30 : Bool) (t10_31 : Int) (o2_32 : List SArc) (o3_33 : List Int) (o4_34 : List Bool) (o5_35 : List Int) : Option (Bool × (List SArc) × (List Int) × (List Bool) × (List Int)) :=
  bif decide (t10_31 < ((a0_v_x).length : Int)) then (guard ((0 : Int) ≤ t10_31 ∧ t10_31 < ((o4_34).length : Int)) (bif (!(o4_34.getD t10_31.toNat false)) then (fair_division_single_f0_p31_p66 t10_31 kl_n_59 left_30 o2_32 o3_33 o4_34 o5_35) else (guard ((0 : Int) ≤ t10_31 ∧ t10_31 < ((o3_33).length : Int)) (guard ((0 : Int) ≤ t10_31 ∧ t10_31 < ((a0_v_caps).length : Int)) (bif decide (o3_33.getD t10_31.toNat 0 < a0_v_caps.getD t10_31.toNat 0) then (guard ((0 : Int) ≤ t10_31 ∧ t10_31 < ((copyL o5_35 0 ((o5_35).length) o3_33).length : Int)) (guard ((0 : Int) ≤ t10_31 ∧ t10_31 < ((copyL o5_35 0 ((o5_35).length) o3_33).length : Int)) ((plan_Fair_1 F ((copyL o5_35 0 ((o5_35).length) o3_33).set t10_31.toNat (IntKind.wrap .i64 ((copyL o5_35 0 ((o5_35).length) o3_33).getD t10_31.toNat 0 + 1))) a0b_Nodes o2_32).bind fun c_78 => bif c_78.1 then (guard ((0 : Int) ≤ t10_31 ∧ t10_31 < ((o3_33).length : Int)) (guard ((0 : Int) ≤ t10_31 ∧ t10_31 < ((o3_33).length : Int)) (fair_division_single_f0_p31_p66 t10_31 kl_n_59 true c_78.2 (o3_33.set t10_31.toNat (IntKind.wrap .i64 (o3_33.getD t10_31.toNat 0 + 1))) o4_34 ((copyL o5_35 0 ((o5_35).length) o3_33).set t10_31.toNat (IntKind.wrap .i64 ((copyL o5_35 0 ((o5_35).length) o3_33).getD t10_31.toNat 0 + 1)))))) else (fair_division_single_f0_p31_p72 left_30 t10_31 o3_33 o4_34 kl_n_59 c_78.2 ((copyL o5_35 0 ((o5_35).length) o3_33).set t10_31.toNat (IntKind.wrap .i64 ((copyL o5_35 0 ((o5_35).length) o3_33).getD t10_31.toNat 0 + 1))))))) else (fair_division_single_f0_p31_p72 left_30 t10_31 o3_33 o4_34 kl_n_59 o2_32 o5_35)))))) else (fair_division_single_f0_p31_p6 left_30 o2_32 o3_33 o4_34 o5_35)
def fair_division_single_f0_p31_l59 (F : Nat) (a0_v_caps : List Int) (a0b_Nodes : Int) (a0_v_x : List Int) : Nat → Bool → Int → (List SArc) → (List Int) → (List Bool) → (List Int) → Option (Bool × (List SArc) × (List Int) × (List Bool) × (List Int))
  | 0, _, _, _, _, _, _ => none
  | n + 1, left_30, t10_31, o2_32, o3_33, o4_34, o5_35 => fair_division_single_f0_p31_b59 F a0_v_caps a0b_Nodes a0_v_x (fun left_30 t10_31 o2_32 o3_33 o4_34 o5_35 => fair_division_single_f0_p31_l59 F a0_v_caps a0b_Nodes a0_v_x n left_30 t10_31 o2_32 o3_33 o4_34 o5_35) left_30 t10_31 o2_32 o3_33 o4_34 o5_35
def fair_division_single_f0_p31 (F : Nat) (a0_v_caps : List Int) (a0b_Nodes : Int) (a0b_Arcs : List SArc) (a0_v_x : List Int) (a0_v_active : List Bool) (a0_v_trial : List Int) : Option (Bool × (List SArc) × (List Int) × (List Bool) × (List Int)) :=
  fair_division_single_f0_p31_l59 F a0_v_caps a0b_Nodes a0_v_x F false 0 a0b_Arcs a0_v_x a0_v_active a0_v_trial
def fair_Fill_f1_31_p15 (o1_11 : List SArc) (o5_12 : List Int) (o6_13 : List Bool) (o7_14 : List Int) : Option ((List Int) × Int × (List SArc)) :=
  some ((o5_12, 0, o1_11))
def fair_Fill_f1_31_b33 (F : Nat) (a0_caps : List Int) (a1b_Nodes : Int) (kl_n_33 : Int → (List SArc) → (List Int) → (List Bool) → (List Int) → Option ((List Int) × Int × (List SArc))) (t48_22 : Int) (o1_23 : List SArc) (o5_24 : List Int) (o6_25 : List Bool) (o7_26 : List Int) : Option ((List Int) × Int × (List SArc)) :=
  bif decide (t48_22 < ((a0_caps).length : Int)) then ((fair_division_together_f0_p31 F a0_caps a1b_Nodes o1_23 o5_24 o6_25 o7_26).bind fun c_35 => (fair_division_single_f0_p31 F a0_caps a1b_Nodes c_35.1 c_35.2.1 o6_25 c_35.2.2).bind fun c_37 => bif (!c_37.1) then (fair_Fill_f1_31_p15 c_37.2.1 c_37.2.2.1 c_37.2.2.2.1 c_37.2.2.2.2) else (kl_n_33 (IntKind.wrap .i64 (t48_22 + 1)) c_37.2.1 c_37.2.2.1 c_37.2.2.2.1 c_37.2.2.2.2)) else (fair_Fill_f1_31_p15 o1_23 o5_24 o6_25 o7_26)
def fair_Fill_f1_31_l33 (F : Nat) (a0_caps : List Int) (a1b_Nodes : Int) : Nat → Int → (List SArc) → (List Int) → (List Bool) → (List Int) → Option ((List Int) × Int × (List SArc))
  | 0, _, _, _, _, _ => none
  | n + 1, t48_22, o1_23, o5_24, o6_25, o7_26 => fair_Fill_f1_31_b33 F a0_caps a1b_Nodes (fun t48_22 o1_23 o5_24 o6_25 o7_26 => fair_Fill_f1_31_l33 F a0_caps a1b_Nodes n t48_22 o1_23 o5_24 o6_25 o7_26) t48_22 o1_23 o5_24 o6_25 o7_26
def fair_Fill_f1_31_p40 (F : Nat) (a0_caps : List Int) (a1b_Nodes : Int) (c_7 : Bool × (List SArc)) (o6_10 : List Bool) : Option ((List Int) × Int × (List SArc)) :=
  fair_Fill_f1_31_l33 F a0_caps a1b_Nodes F 0 c_7.2 (List.replicate (((a0_caps).length : Int)).toNat (0 : Int)) o6_10 (List.replicate (((a0_caps).length : Int)).toNat (0 : Int))
def fair_Fill_f1_31_b47 (F : Nat) (a0_caps : List Int) (a1b_Nodes : Int) (c_7 : Bool × (List SArc)) (kl_n_47 : Int → (List Bool) → Option ((List Int) × Int × (List SArc))) (t39_43 : Int) (o6_44 : List Bool) : Option ((List Int) × Int × (List SArc)) :=
  bif decide (t39_43 < ((List.replicate (((a0_caps).length : Int)).toNat (false : Bool)).length : Int)) then (guard ((0 : Int) ≤ t39_43 ∧ t39_43 < ((o6_44).length : Int)) (kl_n_47 (IntKind.wrap .i64 (t39_43 + 1)) (o6_44.set t39_43.toNat true))) else (fair_Fill_f1_31_p40 F a0_caps a1b_Nodes c_7 o6_44)
def fair_Fill_f1_31_l47 (F : Nat) (a0_caps : List Int) (a1b_Nodes : Int) (c_7 : Bool × (List SArc)) : Nat → Int → (List Bool) → Option ((List Int) × Int × (List SArc))
  | 0, _, _ => none
  | n + 1, t39_43, o6_44 => fair_Fill_f1_31_b47 F a0_caps a1b_Nodes c_7 (fun t39_43 o6_44 => fair_Fill_f1_31_l47 F a0_caps a1b_Nodes c_7 n t39_43 o6_44) t39_43 o6_44
def fair_Fill_f1_31 (F : Nat) (a0_caps : List Int) (a1b_Nodes : Int) (a1b_Arcs : List SArc) : Option ((List Int) × Int × (List SArc)) :=
  (fair_check F a0_caps).bind fun c_1 => bif (!decide (c_1 = 0)) then (some (([], c_1, a1b_Arcs))) else (guard ((0 : Int) ≤ ((a0_caps).length : Int) ∧ ((8 : Nat) : Int) * (((a0_caps).length : Int)) ≤ 281474976710656 ∧ (((a0_caps).length : Int) : Int) ≤ 281474976710656) (guard ((0 : Int) ≤ ((a0_caps).length : Int) ∧ ((1 : Nat) : Int) * (((a0_caps).length : Int)) ≤ 281474976710656 ∧ (((a0_caps).length : Int) : Int) ≤ 281474976710656) (guard ((0 : Int) ≤ ((a0_caps).length : Int) ∧ ((8 : Nat) : Int) * (((a0_caps).length : Int)) ≤ 281474976710656 ∧ (((a0_caps).length : Int) : Int) ≤ 281474976710656) ((plan_Fair_1 F (List.replicate (((a0_caps).length : Int)).toNat (0 : Int)) a1b_Nodes a1b_Arcs).bind fun c_7 => bif (!c_7.1) then (some ((List.replicate (((a0_caps).length : Int)).toNat (0 : Int), 0, c_7.2))) else (fair_Fill_f1_31_l47 F a0_caps a1b_Nodes c_7 F 0 (List.replicate (((a0_caps).length : Int)).toNat (false : Bool)))))))
def plan_Fair_p9 (F : Nat) (c_4 : SNet) (o2_6 : List Int) : Option ((List Int) × Int) :=
  (fair_Fill_f1_31 F o2_6 c_4.Nodes c_4.Arcs).bind fun c_7 => some ((c_7.1, c_7.2.1))
def plan_Fair_b18 (F : Nat) (a0_p : SProblem) (c_4 : SNet) (kl_n_18 : Int → (List Int) → Option ((List Int) × Int)) (t19_13 : Int) (o2_14 : List Int) : Option ((List Int) × Int) :=
  bif decide (t19_13 < ((a0_p.Demands).length : Int)) then (guard ((0 : Int) ≤ t19_13 ∧ t19_13 < ((a0_p.Demands).length : Int)) (guard (((o2_14).length + ([(a0_p.Demands.getD t19_13.toNat dSDemand).Energy]).length) * 8 ≤ 140737488355328 ∧ (o2_14).length + ([(a0_p.Demands.getD t19_13.toNat dSDemand).Energy]).length ≤ 140737488355328) (kl_n_18 (IntKind.wrap .i64 (t19_13 + 1)) (o2_14 ++ ([(a0_p.Demands.getD t19_13.toNat dSDemand).Energy]))))) else (plan_Fair_p9 F c_4 o2_14)
def plan_Fair_l18 (F : Nat) (a0_p : SProblem) (c_4 : SNet) : Nat → Int → (List Int) → Option ((List Int) × Int)
  | 0, _, _ => none
  | n + 1, t19_13, o2_14 => plan_Fair_b18 F a0_p c_4 (fun t19_13 o2_14 => plan_Fair_l18 F a0_p c_4 n t19_13 o2_14) t19_13 o2_14
def plan_Fair (F : Nat) (a0_p : SProblem) : Option ((List Int) × Int) :=
  (plan_Valid F a0_p).bind fun c_1 => bif (!decide (c_1 = 0)) then (some (([], c_1))) else ((plan_network_own F a0_p).bind fun c_4 => plan_Fair_l18 F a0_p c_4 F 0 (([] : List Int)))
def plan_check_p5  : Option Int :=
  some 0
def plan_check_b15 (a1_energy : List Int) (kl_n_15 : Int → Option Int) (t21_10 : Int) : Option Int :=
  bif decide (t21_10 < ((a1_energy).length : Int)) then (guard ((0 : Int) ≤ t21_10 ∧ t21_10 < ((a1_energy).length : Int)) (bif decide (a1_energy.getD t21_10.toNat 0 < 0) then (some 1) else (bif decide (1099511627776 < a1_energy.getD t21_10.toNat 0) then (some 1) else (kl_n_15 (IntKind.wrap .i64 (t21_10 + 1)))))) else (plan_check_p5)
def plan_check_l15 (a1_energy : List Int) : Nat → Int → Option Int
  | 0, _ => none
  | n + 1, t21_10 => plan_check_b15 a1_energy (fun t21_10 => plan_check_l15 a1_energy n t21_10) t21_10
def plan_check (F : Nat) (a0_p : SProblem) (a1_energy : List Int) : Option Int :=
  (plan_Valid F a0_p).bind fun c_1 => bif (!decide (c_1 = 0)) then (some c_1) else (bif (!decide (((a1_energy).length : Int) = ((a0_p.Demands).length : Int))) then (some 1) else (plan_check_l15 a1_energy F 0))
def plan_Feasible (F : Nat) (a0_p : SProblem) (a1_energy : List Int) : Option (Bool × Int) :=
  (plan_check F a0_p a1_energy).bind fun c_1 => bif (!decide (c_1 = 0)) then (some ((false, c_1))) else ((plan_network_own F a0_p).bind fun c_4 => (plan_route F c_4 a1_energy).bind fun c_6 => guard (c_6.2.2.length = c_4.Arcs.length) (some ((c_6.2.1, 0))))
def plan_Schedule_p12 (o0_11 : List (List Int)) : Option ((List (List Int)) × Int) :=
  some ((o0_11, 0))
def plan_Schedule_p120 (t39_64 : Int) (kl_n_116 : Int → Int → (List (List Int)) → Option ((List (List Int)) × Int)) (next_118 : Int) (o1_119 : List (List Int)) : Option ((List (List Int)) × Int) :=
  kl_n_116 next_118 (IntKind.wrap .i64 (t39_64 + 1)) o1_119
def plan_Schedule_p158 (t54_140 : Int) (kl_n_154 : Int → Int → (List (List Int)) → Option ((List (List Int)) × Int)) (next_156 : Int) (o1_157 : List (List Int)) : Option ((List (List Int)) × Int) :=
  kl_n_154 next_156 (IntKind.wrap .i64 (t54_140 + 1)) o1_157
def plan_Schedule_b154 (F : Nat) (a0_p : SProblem) (c_6 : (List Int) × Bool × (List SArc)) (t39_64 : Int) (kl_n_116 : Int → Int → (List (List Int)) → Option ((List (List Int)) × Int)) (kl_n_154 : Int → Int → (List (List Int)) → Option ((List (List Int)) × Int)) (next_139 : Int) (t54_140 : Int) (o1_141 : List (List Int)) : Option ((List (List Int)) × Int) :=
  bif decide (t54_140 < ((a0_p.Caps).length : Int)) then ((plan_usable F a0_p (a0_p.Demands.getD t39_64.toNat dSDemand) t54_140).bind fun c_159 => bif c_159 then (guard ((0 : Int) ≤ t39_64 ∧ t39_64 < ((o1_141).length : Int)) (guard ((0 : Int) ≤ t39_64 ∧ t39_64 < ((o1_141).length : Int)) (guard ((0 : Int) ≤ next_139 ∧ next_139 < ((c_6.1).length : Int)) (guard ((0 : Int) ≤ t54_140 ∧ t54_140 < ((o1_141.getD t39_64.toNat []).length : Int)) (plan_Schedule_p158 t54_140 kl_n_154 (IntKind.wrap .i64 (next_139 + 1)) (o1_141.set t39_64.toNat ((o1_141.getD t39_64.toNat []).set t54_140.toNat (c_6.1.getD next_139.toNat 0)))))))) else (plan_Schedule_p158 t54_140 kl_n_154 next_139 o1_141)) else (plan_Schedule_p120 t39_64 kl_n_116 next_139 o1_141)
def plan_Schedule_l154 (F : Nat) (a0_p : SProblem) (c_6 : (List Int) × Bool × (List SArc)) (t39_64 : Int) (kl_n_116 : Int → Int → (List (List Int)) → Option ((List (List Int)) × Int)) : Nat → Int → Int → (List (List Int)) → Option ((List (List Int)) × Int)
  | 0, _, _, _ => none
  | n + 1, next_139, t54_140, o1_141 => plan_Schedule_b154 F a0_p c_6 t39_64 kl_n_116 (fun next_139 t54_140 o1_141 => plan_Schedule_l154 F a0_p c_6 t39_64 kl_n_116 n next_139 t54_140 o1_141) next_139 t54_140 o1_141
def plan_Schedule_b116 (F : Nat) (a0_p : SProblem) (c_6 : (List Int) × Bool × (List SArc)) (kl_n_116 : Int → Int → (List (List Int)) → Option ((List (List Int)) × Int)) (next_63 : Int) (t39_64 : Int) (o1_65 : List (List Int)) : Option ((List (List Int)) × Int) :=
  bif decide (t39_64 < ((a0_p.Demands).length : Int)) then (guard ((0 : Int) ≤ t39_64 ∧ t39_64 < ((a0_p.Demands).length : Int)) (guard ((0 : Int) ≤ t39_64 ∧ t39_64 < ((o1_65).length : Int)) (guard ((0 : Int) ≤ ((a0_p.Caps).length : Int) ∧ ((8 : Nat) : Int) * (((a0_p.Caps).length : Int)) ≤ 281474976710656 ∧ (((a0_p.Caps).length : Int) : Int) ≤ 281474976710656) (guard ((0 : Int) ≤ t39_64 ∧ t39_64 < ((o1_65).length : Int)) (plan_Schedule_l154 F a0_p c_6 t39_64 kl_n_116 F next_63 0 (o1_65.set t39_64.toNat (List.replicate (((a0_p.Caps).length : Int)).toNat (0 : Int)))))))) else (plan_Schedule_p12 o1_65)
def plan_Schedule_l116 (F : Nat) (a0_p : SProblem) (c_6 : (List Int) × Bool × (List SArc)) : Nat → Int → Int → (List (List Int)) → Option ((List (List Int)) × Int)
  | 0, _, _, _ => none
  | n + 1, next_63, t39_64, o1_65 => plan_Schedule_b116 F a0_p c_6 (fun next_63 t39_64 o1_65 => plan_Schedule_l116 F a0_p c_6 n next_63 t39_64 o1_65) next_63 t39_64 o1_65
def plan_Schedule (F : Nat) (a0_p : SProblem) (a1_energy : List Int) : Option ((List (List Int)) × Int) :=
  (plan_check F a0_p a1_energy).bind fun c_1 => bif (!decide (c_1 = 0)) then (some (([], c_1))) else ((plan_network_own F a0_p).bind fun c_4 => (plan_route F c_4 a1_energy).bind fun c_6 => guard (c_6.2.2.length = c_4.Arcs.length) (bif (!c_6.2.1) then (some (([], 3))) else (guard ((0 : Int) ≤ ((a0_p.Demands).length : Int) ∧ ((24 : Nat) : Int) * (((a0_p.Demands).length : Int)) ≤ 281474976710656 ∧ (((a0_p.Demands).length : Int) : Int) ≤ 281474976710656) (plan_Schedule_l116 F a0_p c_6 F (((a0_p.Demands).length : Int)) 0 (List.replicate (((a0_p.Demands).length : Int)).toNat ([] : List Int))))))
def chargenetlaw18_exampleHolds (F : Nat)  : Option Bool :=
  (plan_Fair F (SProblem.mk ([(-1)]) ([[1500]]) 0 60 ([SDemand.mk 0 7000 60000 0 60, SDemand.mk 0 7000 60000 0 60]))).bind fun c_1 => (plan_Feasible F (SProblem.mk ([(-1)]) ([[1500]]) 0 60 ([SDemand.mk 0 7000 60000 0 60, SDemand.mk 0 7000 60000 0 60])) ([90000, 1])).bind fun c_3 => (plan_Schedule F (SProblem.mk ([(-1)]) ([[1500]]) 0 60 ([SDemand.mk 0 7000 60000 0 60, SDemand.mk 0 7000 60000 0 60])) ([90000, 1])).bind fun c_5 => bif decide (c_1.2 = 0) then (bif decide (((c_1.1).length : Int) = 2) then (guard ((0 : Int) ≤ 0 ∧ 0 < ((c_1.1).length : Int)) (bif decide (c_1.1.getD (0 : Int).toNat 0 = 45000) then (guard ((0 : Int) ≤ 1 ∧ 1 < ((c_1.1).length : Int)) (bif decide (c_1.1.getD (1 : Int).toNat 0 = 45000) then (bif decide (c_3.2 = 0) then (bif (!c_3.1) then (some (decide (c_5.2 = 3))) else (some false)) else (some false)) else (some false))) else (some false))) else (some false)) else (some false)
def plan_Check_p9  : Option Bool :=
  some true
def plan_Check_p65 (t137_36 : Int) (kl_n_63 : Int → Option Bool) : Option Bool :=
  kl_n_63 (IntKind.wrap .i64 (t137_36 + 1))
def plan_Check_b82 (a0_p : SProblem) (o1_8 : List (List Int)) (t137_36 : Int) (kl_n_63 : Int → Option Bool) (kl_n_82 : Int → Option Bool) (t144_74 : Int) : Option Bool :=
  bif decide (t144_74 < ((a0_p.Caps.getD t137_36.toNat ([])).length : Int)) then (guard ((0 : Int) ≤ t144_74 ∧ t144_74 < ((a0_p.Caps.getD t137_36.toNat ([])).length : Int)) (guard ((0 : Int) ≤ t137_36 ∧ t137_36 < ((o1_8).length : Int)) (guard ((0 : Int) ≤ t137_36 ∧ t137_36 < ((o1_8).length : Int)) (guard ((0 : Int) ≤ t144_74 ∧ t144_74 < ((o1_8.getD t137_36.toNat []).length : Int)) (bif decide (IntKind.wrap .i64 ((a0_p.Caps.getD t137_36.toNat ([])).getD t144_74.toNat 0 * a0_p.Length) < (o1_8.getD t137_36.toNat []).getD t144_74.toNat 0) then (some false) else (kl_n_82 (IntKind.wrap .i64 (t144_74 + 1)))))))) else (plan_Check_p65 t137_36 kl_n_63)
def plan_Check_l82 (a0_p : SProblem) (o1_8 : List (List Int)) (t137_36 : Int) (kl_n_63 : Int → Option Bool) : Nat → Int → Option Bool
  | 0, _ => none
  | n + 1, t144_74 => plan_Check_b82 a0_p o1_8 t137_36 kl_n_63 (fun t144_74 => plan_Check_l82 a0_p o1_8 t137_36 kl_n_63 n t144_74) t144_74
def plan_Check_b63 (F : Nat) (a0_p : SProblem) (o1_8 : List (List Int)) (kl_n_63 : Int → Option Bool) (t137_36 : Int) : Option Bool :=
  bif decide (t137_36 < ((a0_p.Caps).length : Int)) then (guard ((0 : Int) ≤ t137_36 ∧ t137_36 < ((a0_p.Caps).length : Int)) (plan_Check_l82 a0_p o1_8 t137_36 kl_n_63 F 0)) else (plan_Check_p9)
def plan_Check_l63 (F : Nat) (a0_p : SProblem) (o1_8 : List (List Int)) : Nat → Int → Option Bool
  | 0, _ => none
  | n + 1, t137_36 => plan_Check_b63 F a0_p o1_8 (fun t137_36 => plan_Check_l63 F a0_p o1_8 n t137_36) t137_36
def plan_Check_p90 (F : Nat) (a0_p : SProblem) (o1_8 : List (List Int)) : Option Bool :=
  plan_Check_l63 F a0_p o1_8 F 0
def plan_Check_p340 (t57_213 : Int) (t58_214 : Int) (kl_n_337 : Int → Int → (List (List Int)) → Option Bool) (o1_339 : List (List Int)) : Option Bool :=
  kl_n_337 t57_213 (IntKind.wrap .i64 (t58_214 + 1)) o1_339
def plan_Check_p348 (a1_energy : List Int) (t57_213 : Int) (t58_214 : Int) (kl_n_337 : Int → Int → (List (List Int)) → Option Bool) (total_344 : Int) (o1_345 : List (List Int)) : Option Bool :=
  guard ((0 : Int) ≤ t58_214 ∧ t58_214 < ((a1_energy).length : Int)) (bif (!decide (total_344 = a1_energy.getD t58_214.toNat 0)) then (some false) else (plan_Check_p340 t57_213 t58_214 kl_n_337 o1_345))
def plan_Check_p426 (a2_plan : List (List Int)) (t58_214 : Int) (total_385 : Int) (t77_386 : Int) (kl_n_423 : Int → Int → (List (List Int)) → Option Bool) (o1_425 : List (List Int)) : Option Bool :=
  kl_n_423 (IntKind.wrap .i64 (total_385 + (a2_plan.getD t58_214.toNat ([])).getD t77_386.toNat 0)) (IntKind.wrap .i64 (t77_386 + 1)) o1_425
def plan_Check_b444 (a0_p : SProblem) (a2_plan : List (List Int)) (t58_214 : Int) (total_385 : Int) (t77_386 : Int) (kl_n_423 : Int → Int → (List (List Int)) → Option Bool) (kl_n_444 : Int → (List (List Int)) → Option Bool) (f_435 : Int) (o1_436 : List (List Int)) : Option Bool :=
  bif decide (0 ≤ f_435) then (guard ((0 : Int) ≤ t77_386 ∧ t77_386 < ((o1_436).length : Int)) (guard ((0 : Int) ≤ t77_386 ∧ t77_386 < ((o1_436).length : Int)) (guard ((0 : Int) ≤ f_435 ∧ f_435 < ((o1_436.getD t77_386.toNat []).length : Int)) (guard ((0 : Int) ≤ f_435 ∧ f_435 < ((o1_436.getD t77_386.toNat []).length : Int)) (guard ((0 : Int) ≤ f_435 ∧ f_435 < ((a0_p.Parents).length : Int)) (kl_n_444 (a0_p.Parents.getD f_435.toNat 0) (o1_436.set t77_386.toNat ((o1_436.getD t77_386.toNat []).set f_435.toNat (IntKind.wrap .i64 ((o1_436.getD t77_386.toNat []).getD f_435.toNat 0 + (a2_plan.getD t58_214.toNat ([])).getD t77_386.toNat 0)))))))))) else (plan_Check_p426 a2_plan t58_214 total_385 t77_386 kl_n_423 o1_436)
def plan_Check_l444 (a0_p : SProblem) (a2_plan : List (List Int)) (t58_214 : Int) (total_385 : Int) (t77_386 : Int) (kl_n_423 : Int → Int → (List (List Int)) → Option Bool) : Nat → Int → (List (List Int)) → Option Bool
  | 0, _, _ => none
  | n + 1, f_435, o1_436 => plan_Check_b444 a0_p a2_plan t58_214 total_385 t77_386 kl_n_423 (fun f_435 o1_436 => plan_Check_l444 a0_p a2_plan t58_214 total_385 t77_386 kl_n_423 n f_435 o1_436) f_435 o1_436
def plan_Check_p452 (F : Nat) (a0_p : SProblem) (a2_plan : List (List Int)) (t58_214 : Int) (total_385 : Int) (t77_386 : Int) (o1_387 : List (List Int)) (kl_n_423 : Int → Int → (List (List Int)) → Option Bool) : Option Bool :=
  plan_Check_l444 a0_p a2_plan t58_214 total_385 t77_386 kl_n_423 F ((a0_p.Demands.getD t58_214.toNat dSDemand).Feeder) o1_387
def plan_Check_b423 (F : Nat) (a0_p : SProblem) (a1_energy : List Int) (a2_plan : List (List Int)) (t57_213 : Int) (t58_214 : Int) (kl_n_337 : Int → Int → (List (List Int)) → Option Bool) (kl_n_423 : Int → Int → (List (List Int)) → Option Bool) (total_385 : Int) (t77_386 : Int) (o1_387 : List (List Int)) : Option Bool :=
  bif decide (t77_386 < ((a2_plan.getD t58_214.toNat ([])).length : Int)) then (guard ((0 : Int) ≤ t77_386 ∧ t77_386 < ((a2_plan.getD t58_214.toNat ([])).length : Int)) (bif decide ((a2_plan.getD t58_214.toNat ([])).getD t77_386.toNat 0 < 0) then (some false) else (bif decide (IntKind.wrap .i64 ((a0_p.Demands.getD t58_214.toNat dSDemand).Max * a0_p.Length) < (a2_plan.getD t58_214.toNat ([])).getD t77_386.toNat 0) then (some false) else (bif decide (0 < (a2_plan.getD t58_214.toNat ([])).getD t77_386.toNat 0) then ((plan_usable F a0_p (a0_p.Demands.getD t58_214.toNat dSDemand) t77_386).bind fun c_456 => bif (!c_456) then (some false) else (plan_Check_p452 F a0_p a2_plan t58_214 total_385 t77_386 o1_387 kl_n_423)) else (plan_Check_p452 F a0_p a2_plan t58_214 total_385 t77_386 o1_387 kl_n_423))))) else (plan_Check_p348 a1_energy t57_213 t58_214 kl_n_337 total_385 o1_387)
def plan_Check_l423 (F : Nat) (a0_p : SProblem) (a1_energy : List Int) (a2_plan : List (List Int)) (t57_213 : Int) (t58_214 : Int) (kl_n_337 : Int → Int → (List (List Int)) → Option Bool) : Nat → Int → Int → (List (List Int)) → Option Bool
  | 0, _, _, _ => none
  | n + 1, total_385, t77_386, o1_387 => plan_Check_b423 F a0_p a1_energy a2_plan t57_213 t58_214 kl_n_337 (fun total_385 t77_386 o1_387 => plan_Check_l423 F a0_p a1_energy a2_plan t57_213 t58_214 kl_n_337 n total_385 t77_386 o1_387) total_385 t77_386 o1_387
def plan_Check_b337 (F : Nat) (a0_p : SProblem) (a1_energy : List Int) (a2_plan : List (List Int)) (kl_n_337 : Int → Int → (List (List Int)) → Option Bool) (t57_213 : Int) (t58_214 : Int) (o1_215 : List (List Int)) : Option Bool :=
  bif decide (t58_214 < t57_213) then (guard ((0 : Int) ≤ t58_214 ∧ t58_214 < ((a0_p.Demands).length : Int)) (guard ((0 : Int) ≤ t58_214 ∧ t58_214 < ((a2_plan).length : Int)) (bif (!decide (((a2_plan.getD t58_214.toNat ([])).length : Int) = ((a0_p.Caps).length : Int))) then (some false) else (guard ((0 : Int) ≤ t58_214 ∧ t58_214 < ((a2_plan).length : Int)) (plan_Check_l423 F a0_p a1_energy a2_plan t57_213 t58_214 kl_n_337 F 0 0 o1_215))))) else (plan_Check_p90 F a0_p o1_215)
def plan_Check_l337 (F : Nat) (a0_p : SProblem) (a1_energy : List Int) (a2_plan : List (List Int)) : Nat → Int → Int → (List (List Int)) → Option Bool
  | 0, _, _, _ => none
  | n + 1, t57_213, t58_214, o1_215 => plan_Check_b337 F a0_p a1_energy a2_plan (fun t57_213 t58_214 o1_215 => plan_Check_l337 F a0_p a1_energy a2_plan n t57_213 t58_214 o1_215) t57_213 t58_214 o1_215
def plan_Check_p459 (F : Nat) (a0_p : SProblem) (a1_energy : List Int) (a2_plan : List (List Int)) (o1_7 : List (List Int)) : Option Bool :=
  plan_Check_l337 F a0_p a1_energy a2_plan F (((a0_p.Demands).length : Int)) 0 o1_7
def plan_Check_b474 (F : Nat) (a0_p : SProblem) (a1_energy : List Int) (a2_plan : List (List Int)) (kl_n_474 : Int → (List (List Int)) → Option Bool) (t44_466 : Int) (o1_467 : List (List Int)) : Option Bool :=
  bif decide (t44_466 < ((List.replicate (((a0_p.Caps).length : Int)).toNat ([] : List Int)).length : Int)) then (guard ((0 : Int) ≤ t44_466 ∧ t44_466 < ((o1_467).length : Int)) (guard ((0 : Int) ≤ ((a0_p.Parents).length : Int) ∧ ((8 : Nat) : Int) * (((a0_p.Parents).length : Int)) ≤ 281474976710656 ∧ (((a0_p.Parents).length : Int) : Int) ≤ 281474976710656) (guard ((0 : Int) ≤ t44_466 ∧ t44_466 < ((o1_467).length : Int)) (kl_n_474 (IntKind.wrap .i64 (t44_466 + 1)) (o1_467.set t44_466.toNat (List.replicate (((a0_p.Parents).length : Int)).toNat (0 : Int))))))) else (plan_Check_p459 F a0_p a1_energy a2_plan o1_467)
def plan_Check_l474 (F : Nat) (a0_p : SProblem) (a1_energy : List Int) (a2_plan : List (List Int)) : Nat → Int → (List (List Int)) → Option Bool
  | 0, _, _ => none
  | n + 1, t44_466, o1_467 => plan_Check_b474 F a0_p a1_energy a2_plan (fun t44_466 o1_467 => plan_Check_l474 F a0_p a1_energy a2_plan n t44_466 o1_467) t44_466 o1_467
def plan_Check (F : Nat) (a0_p : SProblem) (a1_energy : List Int) (a2_plan : List (List Int)) : Option Bool :=
  (plan_Valid F a0_p).bind fun c_1 => bif (!decide (c_1 = 0)) then (some false) else (bif (!decide (((a1_energy).length : Int) = ((a0_p.Demands).length : Int))) then (some false) else (bif (!decide (((a2_plan).length : Int) = ((a0_p.Demands).length : Int))) then (some false) else (guard ((0 : Int) ≤ ((a0_p.Caps).length : Int) ∧ ((24 : Nat) : Int) * (((a0_p.Caps).length : Int)) ≤ 281474976710656 ∧ (((a0_p.Caps).length : Int) : Int) ≤ 281474976710656) (plan_Check_l474 F a0_p a1_energy a2_plan F 0 (List.replicate (((a0_p.Caps).length : Int)).toNat ([] : List Int))))))
def chargenetref18_energies_p5  : Option Int :=
  some 0
def chargenetref18_energies_b15 (a1_energy : List Int) (kl_n_15 : Int → Option Int) (t21_10 : Int) : Option Int :=
  bif decide (t21_10 < ((a1_energy).length : Int)) then (guard ((0 : Int) ≤ t21_10 ∧ t21_10 < ((a1_energy).length : Int)) (bif decide (a1_energy.getD t21_10.toNat 0 < 0) then (some 1) else (bif decide (1099511627776 < a1_energy.getD t21_10.toNat 0) then (some 1) else (kl_n_15 (IntKind.wrap .i64 (t21_10 + 1)))))) else (chargenetref18_energies_p5)
def chargenetref18_energies_l15 (a1_energy : List Int) : Nat → Int → Option Int
  | 0, _ => none
  | n + 1, t21_10 => chargenetref18_energies_b15 a1_energy (fun t21_10 => chargenetref18_energies_l15 a1_energy n t21_10) t21_10
def chargenetref18_energies (F : Nat) (a0_p : SProblem) (a1_energy : List Int) : Option Int :=
  (chargenetref18_Valid F a0_p).bind fun c_1 => bif (!decide (c_1 = 0)) then (some c_1) else (bif (!decide (((a1_energy).length : Int) = ((a0_p.Demands).length : Int))) then (some 1) else (chargenetref18_energies_l15 a1_energy F 0))
def chargenetref18_Usable (F : Nat) (a0_p : SProblem) (a1_d : SDemand) (a2_t : Int) : Option Bool :=
  bif decide (a1_d.Arrive ≤ IntKind.wrap .i64 (a0_p.From + IntKind.wrap .i64 (a2_t * a0_p.Length))) then (some (decide (IntKind.wrap .i64 (IntKind.wrap .i64 (a0_p.From + IntKind.wrap .i64 (a2_t * a0_p.Length)) + a0_p.Length) ≤ a1_d.Depart))) else (some false)
def chargenetref18_Below_p1  : Option Bool :=
  some false
def chargenetref18_Below_b9 (a0_p : SProblem) (a2_top : Int) (kl_n_9 : Int → Option Bool) (f_5 : Int) : Option Bool :=
  bif decide (0 ≤ f_5) then (bif decide (f_5 = a2_top) then (some true) else (guard ((0 : Int) ≤ f_5 ∧ f_5 < ((a0_p.Parents).length : Int)) (kl_n_9 (a0_p.Parents.getD f_5.toNat 0)))) else (chargenetref18_Below_p1)
def chargenetref18_Below_l9 (a0_p : SProblem) (a2_top : Int) : Nat → Int → Option Bool
  | 0, _ => none
  | n + 1, f_5 => chargenetref18_Below_b9 a0_p a2_top (fun f_5 => chargenetref18_Below_l9 a0_p a2_top n f_5) f_5
def chargenetref18_Below (F : Nat) (a0_p : SProblem) (a1_f : Int) (a2_top : Int) : Option Bool :=
  chargenetref18_Below_l9 a0_p a2_top F a1_f
def chargenetref18_Check_p5  : Option Bool :=
  some true
def chargenetref18_Check_p247 (t93_126 : Int) (t94_127 : Int) (kl_n_245 : Int → Int → Option Bool) : Option Bool :=
  kl_n_245 t93_126 (IntKind.wrap .i64 (t94_127 + 1))
def chargenetref18_Check_p328 (t99_287 : List Int) (t100_288 : Int) (t101_289 : Int) (kl_n_326 : (List Int) → Int → Int → Option Bool) : Option Bool :=
  kl_n_326 t99_287 t100_288 (IntKind.wrap .i64 (t101_289 + 1))
def chargenetref18_Check_p332 (a0_p : SProblem) (t99_287 : List Int) (t100_288 : Int) (t101_289 : Int) (kl_n_326 : (List Int) → Int → Int → Option Bool) (sum_330 : Int) : Option Bool :=
  bif decide (IntKind.wrap .i64 (t99_287.getD t101_289.toNat 0 * a0_p.Length) < sum_330) then (some false) else (chargenetref18_Check_p328 t99_287 t100_288 t101_289 kl_n_326)
def chargenetref18_Check_p356 (t109_343 : Int) (kl_n_353 : Int → Int → Option Bool) (sum_355 : Int) : Option Bool :=
  kl_n_353 sum_355 (IntKind.wrap .i64 (t109_343 + 1))
def chargenetref18_Check_b353 (F : Nat) (a0_p : SProblem) (a2_plan : List (List Int)) (t94_127 : Int) (t99_287 : List Int) (t100_288 : Int) (t101_289 : Int) (kl_n_326 : (List Int) → Int → Int → Option Bool) (kl_n_353 : Int → Int → Option Bool) (sum_342 : Int) (t109_343 : Int) : Option Bool :=
  bif decide (t109_343 < ((a0_p.Demands).length : Int)) then (guard ((0 : Int) ≤ t109_343 ∧ t109_343 < ((a0_p.Demands).length : Int)) ((chargenetref18_Below F a0_p ((a0_p.Demands.getD t109_343.toNat dSDemand).Feeder) t101_289).bind fun c_358 => bif c_358 then (guard ((0 : Int) ≤ t109_343 ∧ t109_343 < ((a2_plan).length : Int)) (guard ((0 : Int) ≤ t94_127 ∧ t94_127 < ((a2_plan.getD t109_343.toNat ([])).length : Int)) (chargenetref18_Check_p356 t109_343 kl_n_353 (IntKind.wrap .i64 (sum_342 + (a2_plan.getD t109_343.toNat ([])).getD t94_127.toNat 0))))) else (chargenetref18_Check_p356 t109_343 kl_n_353 sum_342))) else (chargenetref18_Check_p332 a0_p t99_287 t100_288 t101_289 kl_n_326 sum_342)
def chargenetref18_Check_l353 (F : Nat) (a0_p : SProblem) (a2_plan : List (List Int)) (t94_127 : Int) (t99_287 : List Int) (t100_288 : Int) (t101_289 : Int) (kl_n_326 : (List Int) → Int → Int → Option Bool) : Nat → Int → Int → Option Bool
  | 0, _, _ => none
  | n + 1, sum_342, t109_343 => chargenetref18_Check_b353 F a0_p a2_plan t94_127 t99_287 t100_288 t101_289 kl_n_326 (fun sum_342 t109_343 => chargenetref18_Check_l353 F a0_p a2_plan t94_127 t99_287 t100_288 t101_289 kl_n_326 n sum_342 t109_343) sum_342 t109_343
def chargenetref18_Check_b326 (F : Nat) (a0_p : SProblem) (a2_plan : List (List Int)) (t93_126 : Int) (t94_127 : Int) (kl_n_245 : Int → Int → Option Bool) (kl_n_326 : (List Int) → Int → Int → Option Bool) (t99_287 : List Int) (t100_288 : Int) (t101_289 : Int) : Option Bool :=
  bif decide (t101_289 < t100_288) then (guard ((0 : Int) ≤ t101_289 ∧ t101_289 < ((t99_287).length : Int)) (chargenetref18_Check_l353 F a0_p a2_plan t94_127 t99_287 t100_288 t101_289 kl_n_326 F 0 0)) else (chargenetref18_Check_p247 t93_126 t94_127 kl_n_245)
def chargenetref18_Check_l326 (F : Nat) (a0_p : SProblem) (a2_plan : List (List Int)) (t93_126 : Int) (t94_127 : Int) (kl_n_245 : Int → Int → Option Bool) : Nat → (List Int) → Int → Int → Option Bool
  | 0, _, _, _ => none
  | n + 1, t99_287, t100_288, t101_289 => chargenetref18_Check_b326 F a0_p a2_plan t93_126 t94_127 kl_n_245 (fun t99_287 t100_288 t101_289 => chargenetref18_Check_l326 F a0_p a2_plan t93_126 t94_127 kl_n_245 n t99_287 t100_288 t101_289) t99_287 t100_288 t101_289
def chargenetref18_Check_b245 (F : Nat) (a0_p : SProblem) (a2_plan : List (List Int)) (kl_n_245 : Int → Int → Option Bool) (t93_126 : Int) (t94_127 : Int) : Option Bool :=
  bif decide (t94_127 < t93_126) then (guard ((0 : Int) ≤ t94_127 ∧ t94_127 < ((a0_p.Caps).length : Int)) (chargenetref18_Check_l326 F a0_p a2_plan t93_126 t94_127 kl_n_245 F (a0_p.Caps.getD t94_127.toNat ([])) (((a0_p.Caps.getD t94_127.toNat ([])).length : Int)) 0)) else (chargenetref18_Check_p5)
def chargenetref18_Check_l245 (F : Nat) (a0_p : SProblem) (a2_plan : List (List Int)) : Nat → Int → Int → Option Bool
  | 0, _, _ => none
  | n + 1, t93_126, t94_127 => chargenetref18_Check_b245 F a0_p a2_plan (fun t93_126 t94_127 => chargenetref18_Check_l245 F a0_p a2_plan n t93_126 t94_127) t93_126 t94_127
def chargenetref18_Check_p363 (F : Nat) (a0_p : SProblem) (a2_plan : List (List Int)) : Option Bool :=
  chargenetref18_Check_l245 F a0_p a2_plan F (((a0_p.Caps).length : Int)) 0
def chargenetref18_Check_p449 (t33_405 : Int) (t34_406 : Int) (kl_n_447 : Int → Int → Option Bool) : Option Bool :=
  kl_n_447 t33_405 (IntKind.wrap .i64 (t34_406 + 1))
def chargenetref18_Check_p456 (a1_energy : List Int) (t33_405 : Int) (t34_406 : Int) (kl_n_447 : Int → Int → Option Bool) (sum_453 : Int) : Option Bool :=
  guard ((0 : Int) ≤ t34_406 ∧ t34_406 < ((a1_energy).length : Int)) (bif (!decide (sum_453 = a1_energy.getD t34_406.toNat 0)) then (some false) else (chargenetref18_Check_p449 t33_405 t34_406 kl_n_447))
def chargenetref18_Check_p481 (a2_plan : List (List Int)) (t34_406 : Int) (sum_467 : Int) (t53_468 : Int) (kl_n_478 : Int → Int → Option Bool) : Option Bool :=
  kl_n_478 (IntKind.wrap .i64 (sum_467 + (a2_plan.getD t34_406.toNat ([])).getD t53_468.toNat 0)) (IntKind.wrap .i64 (t53_468 + 1))
def chargenetref18_Check_b478 (F : Nat) (a0_p : SProblem) (a1_energy : List Int) (a2_plan : List (List Int)) (t33_405 : Int) (t34_406 : Int) (kl_n_447 : Int → Int → Option Bool) (kl_n_478 : Int → Int → Option Bool) (sum_467 : Int) (t53_468 : Int) : Option Bool :=
  bif decide (t53_468 < ((a2_plan.getD t34_406.toNat ([])).length : Int)) then (guard ((0 : Int) ≤ t53_468 ∧ t53_468 < ((a2_plan.getD t34_406.toNat ([])).length : Int)) (bif decide ((a2_plan.getD t34_406.toNat ([])).getD t53_468.toNat 0 < 0) then (some false) else (bif decide (IntKind.wrap .i64 ((a0_p.Demands.getD t34_406.toNat dSDemand).Max * a0_p.Length) < (a2_plan.getD t34_406.toNat ([])).getD t53_468.toNat 0) then (some false) else (bif decide (0 < (a2_plan.getD t34_406.toNat ([])).getD t53_468.toNat 0) then ((chargenetref18_Usable F a0_p (a0_p.Demands.getD t34_406.toNat dSDemand) t53_468).bind fun c_485 => bif (!c_485) then (some false) else (chargenetref18_Check_p481 a2_plan t34_406 sum_467 t53_468 kl_n_478)) else (chargenetref18_Check_p481 a2_plan t34_406 sum_467 t53_468 kl_n_478))))) else (chargenetref18_Check_p456 a1_energy t33_405 t34_406 kl_n_447 sum_467)
def chargenetref18_Check_l478 (F : Nat) (a0_p : SProblem) (a1_energy : List Int) (a2_plan : List (List Int)) (t33_405 : Int) (t34_406 : Int) (kl_n_447 : Int → Int → Option Bool) : Nat → Int → Int → Option Bool
  | 0, _, _ => none
  | n + 1, sum_467, t53_468 => chargenetref18_Check_b478 F a0_p a1_energy a2_plan t33_405 t34_406 kl_n_447 (fun sum_467 t53_468 => chargenetref18_Check_l478 F a0_p a1_energy a2_plan t33_405 t34_406 kl_n_447 n sum_467 t53_468) sum_467 t53_468
def chargenetref18_Check_b447 (F : Nat) (a0_p : SProblem) (a1_energy : List Int) (a2_plan : List (List Int)) (kl_n_447 : Int → Int → Option Bool) (t33_405 : Int) (t34_406 : Int) : Option Bool :=
  bif decide (t34_406 < t33_405) then (guard ((0 : Int) ≤ t34_406 ∧ t34_406 < ((a0_p.Demands).length : Int)) (guard ((0 : Int) ≤ t34_406 ∧ t34_406 < ((a2_plan).length : Int)) (bif (!decide (((a2_plan.getD t34_406.toNat ([])).length : Int) = ((a0_p.Caps).length : Int))) then (some false) else (guard ((0 : Int) ≤ t34_406 ∧ t34_406 < ((a2_plan).length : Int)) (chargenetref18_Check_l478 F a0_p a1_energy a2_plan t33_405 t34_406 kl_n_447 F 0 0))))) else (chargenetref18_Check_p363 F a0_p a2_plan)
def chargenetref18_Check_l447 (F : Nat) (a0_p : SProblem) (a1_energy : List Int) (a2_plan : List (List Int)) : Nat → Int → Int → Option Bool
  | 0, _, _ => none
  | n + 1, t33_405, t34_406 => chargenetref18_Check_b447 F a0_p a1_energy a2_plan (fun t33_405 t34_406 => chargenetref18_Check_l447 F a0_p a1_energy a2_plan n t33_405 t34_406) t33_405 t34_406
def chargenetref18_Check (F : Nat) (a0_p : SProblem) (a1_energy : List Int) (a2_plan : List (List Int)) : Option Bool :=
  (chargenetref18_energies F a0_p a1_energy).bind fun c_1 => bif (!decide (c_1 = 0)) then (some false) else (bif (!decide (((a2_plan).length : Int) = ((a0_p.Demands).length : Int))) then (some false) else (chargenetref18_Check_l447 F a0_p a1_energy a2_plan F (((a0_p.Demands).length : Int)) 0))
def chargenetlaw18_PlanChecks_p16 (F : Nat) (a0_p : SProblem) (a1_energy : List Int) (a2_l : List (List Int)) : Option Bool :=
  (plan_Check F a0_p a1_energy a2_l).bind fun c_12 => (chargenetref18_Check F a0_p a1_energy a2_l).bind fun c_14 => some ((c_12 == c_14))
def chargenetlaw18_PlanChecks_b28 (F : Nat) (a0_p : SProblem) (a1_energy : List Int) (a2_l : List (List Int)) (kl_n_28 : Int → Option Bool) (t25_22 : Int) : Option Bool :=
  bif decide (t25_22 < ((a2_l).length : Int)) then (guard ((0 : Int) ≤ t25_22 ∧ t25_22 < ((a2_l).length : Int)) (bif decide (20 < ((a2_l.getD t25_22.toNat ([])).length : Int)) then ((chargenetlaw18_exampleHolds F).bind fun c_32 => some c_32) else (kl_n_28 (IntKind.wrap .i64 (t25_22 + 1))))) else (chargenetlaw18_PlanChecks_p16 F a0_p a1_energy a2_l)
def chargenetlaw18_PlanChecks_l28 (F : Nat) (a0_p : SProblem) (a1_energy : List Int) (a2_l : List (List Int)) : Nat → Int → Option Bool
  | 0, _ => none
  | n + 1, t25_22 => chargenetlaw18_PlanChecks_b28 F a0_p a1_energy a2_l (fun t25_22 => chargenetlaw18_PlanChecks_l28 F a0_p a1_energy a2_l n t25_22) t25_22
def chargenetlaw18_PlanChecks (F : Nat) (a0_p : SProblem) (a1_energy : List Int) (a2_l : List (List Int)) : Option Bool :=
  (chargenetlaw18_Small F a0_p).bind fun c_1 => bif (!c_1) then ((chargenetlaw18_exampleHolds F).bind fun c_4 => some c_4) else (bif decide (10 < ((a1_energy).length : Int)) then ((chargenetlaw18_exampleHolds F).bind fun c_7 => some c_7) else (bif decide (10 < ((a2_l).length : Int)) then ((chargenetlaw18_exampleHolds F).bind fun c_10 => some c_10) else (chargenetlaw18_PlanChecks_l28 F a0_p a1_energy a2_l F 0)))
end Go.Proofs.Ytfefnffdocmlmaa.M
