/- Plain models of the references of chapters 9 and 18, which other texts of ours speak of. -/
import Derived.Test.YtmiikbfacgmopaaRead
namespace Go.Proofs.Ytmiikbfacgmopaa.M
open Go Go.Proofs.Ytmiikbfacgmopaa.E
set_option linter.unusedVariables false
def chargenetref18_Valid_p11  : Option Int :=
 some 0
def chargenetref18_Valid_b35 (a0_p : SProblem) (kl_n_35 : Int → Option Int) (t116_23 : Int) : Option Int :=
 bif decide (t116_23 < ((a0_p.Demands).length : Int)) then (guard ((0 : Int) ≤ t116_23 ∧ t116_23 < ((a0_p.Demands).length : Int)) (bif decide ((a0_p.Demands.getD t116_23.toNat dSDemand).Feeder < 0) then (some 1) else (bif decide (((a0_p.Parents).length : Int) ≤ (a0_p.Demands.getD t116_23.toNat dSDemand).Feeder) then (some 1) else (bif decide ((a0_p.Demands.getD t116_23.toNat dSDemand).Max < 0) then (some 2) else (bif decide (3145728 < (a0_p.Demands.getD t116_23.toNat dSDemand).Max) then (some 2) else (bif decide ((a0_p.Demands.getD t116_23.toNat dSDemand).Energy < 0) then (some 2) else (bif decide (1099511627776 < (a0_p.Demands.getD t116_23.toNat dSDemand).Energy) then (some 2) else (bif decide ((a0_p.Demands.getD t116_23.toNat dSDemand).Arrive < 0) then (some 2) else (bif decide ((a0_p.Demands.getD t116_23.toNat dSDemand).Depart < (a0_p.Demands.getD t116_23.toNat dSDemand).Arrive) then (some 2) else (bif decide (268435456 < (a0_p.Demands.getD t116_23.toNat dSDemand).Depart) then (some 2) else (kl_n_35 (IntKind.wrap .i64 (t116_23 + 1))))))))))))) else (chargenetref18_Valid_p11)
def chargenetref18_Valid_l35 (a0_p : SProblem) : Nat → Int → Option Int
 | 0, _ => none
 | n + 1, t116_23 => chargenetref18_Valid_b35 a0_p (fun t116_23 => chargenetref18_Valid_l35 a0_p n t116_23) t116_23
def chargenetref18_Valid_p47 (F : Nat) (a0_p : SProblem) : Option Int :=
 bif decide (a0_p.From < 0) then (some 2) else (bif decide (268435456 < a0_p.From) then (some 2) else (bif decide (a0_p.Length < 1) then (some 2) else (bif decide (1440 < a0_p.Length) then (some 2) else (bif decide (268435456 < IntKind.wrap .i64 (a0_p.From + IntKind.wrap .i64 (((a0_p.Caps).length : Int) * a0_p.Length))) then (some 2) else (chargenetref18_Valid_l35 a0_p F 0)))))
def chargenetref18_Valid_p87 (t63_66 : Int) (kl_n_85 : Int → Option Int) : Option Int :=
 kl_n_85 (IntKind.wrap .i64 (t63_66 + 1))
def chargenetref18_Valid_b99 (a0_p : SProblem) (t63_66 : Int) (kl_n_85 : Int → Option Int) (kl_n_99 : Int → Option Int) (t73_94 : Int) : Option Int :=
 bif decide (t73_94 < ((a0_p.Caps.getD t63_66.toNat ([])).length : Int)) then (guard ((0 : Int) ≤ t73_94 ∧ t73_94 < ((a0_p.Caps.getD t63_66.toNat ([])).length : Int)) (bif decide ((a0_p.Caps.getD t63_66.toNat ([])).getD t73_94.toNat 0 < 0) then (some 1) else (bif decide (1073741824 < (a0_p.Caps.getD t63_66.toNat ([])).getD t73_94.toNat 0) then (some 1) else (kl_n_99 (IntKind.wrap .i64 (t73_94 + 1)))))) else (chargenetref18_Valid_p87 t63_66 kl_n_85)
def chargenetref18_Valid_l99 (a0_p : SProblem) (t63_66 : Int) (kl_n_85 : Int → Option Int) : Nat → Int → Option Int
 | 0, _ => none
 | n + 1, t73_94 => chargenetref18_Valid_b99 a0_p t63_66 kl_n_85 (fun t73_94 => chargenetref18_Valid_l99 a0_p t63_66 kl_n_85 n t73_94) t73_94
def chargenetref18_Valid_b85 (F : Nat) (a0_p : SProblem) (kl_n_85 : Int → Option Int) (t63_66 : Int) : Option Int :=
 bif decide (t63_66 < ((a0_p.Caps).length : Int)) then (guard ((0 : Int) ≤ t63_66 ∧ t63_66 < ((a0_p.Caps).length : Int)) (bif (!decide (((a0_p.Caps.getD t63_66.toNat ([])).length : Int) = ((a0_p.Parents).length : Int))) then (some 1) else (chargenetref18_Valid_l99 a0_p t63_66 kl_n_85 F 0))) else (chargenetref18_Valid_p47 F a0_p)
def chargenetref18_Valid_l85 (F : Nat) (a0_p : SProblem) : Nat → Int → Option Int
 | 0, _ => none
 | n + 1, t63_66 => chargenetref18_Valid_b85 F a0_p (fun t63_66 => chargenetref18_Valid_l85 F a0_p n t63_66) t63_66
def chargenetref18_Valid_p104 (F : Nat) (a0_p : SProblem) : Option Int :=
 chargenetref18_Valid_l85 F a0_p F 0
def chargenetref18_Valid_b114 (F : Nat) (a0_p : SProblem) (kl_n_114 : Int → Option Int) (t47_109 : Int) : Option Int :=
 bif decide (t47_109 < ((a0_p.Parents).length : Int)) then (guard ((0 : Int) ≤ t47_109 ∧ t47_109 < ((a0_p.Parents).length : Int)) (bif decide (a0_p.Parents.getD t47_109.toNat 0 < (-1)) then (some 1) else (bif decide (t47_109 ≤ a0_p.Parents.getD t47_109.toNat 0) then (some 1) else (kl_n_114 (IntKind.wrap .i64 (t47_109 + 1)))))) else (chargenetref18_Valid_p104 F a0_p)
def chargenetref18_Valid_l114 (F : Nat) (a0_p : SProblem) : Nat → Int → Option Int
 | 0, _ => none
 | n + 1, t47_109 => chargenetref18_Valid_b114 F a0_p (fun t47_109 => chargenetref18_Valid_l114 F a0_p n t47_109) t47_109
def chargenetref18_Valid (F : Nat) (a0_p : SProblem) : Option Int :=
 bif decide (32 < ((a0_p.Parents).length : Int)) then (some 3) else (bif decide (48 < ((a0_p.Caps).length : Int)) then (some 3) else (bif decide (16 < ((a0_p.Demands).length : Int)) then (some 3) else (bif decide (256 < IntKind.wrap .i64 (IntKind.wrap .i64 (2 + ((a0_p.Demands).length : Int)) + IntKind.wrap .i64 (((a0_p.Caps).length : Int) * ((a0_p.Parents).length : Int)))) then (some 3) else (bif decide (((a0_p.Parents).length : Int) = 0) then (some 1) else (chargenetref18_Valid_l114 F a0_p F 0)))))
def chargenetref18_energies_p5  : Option Int :=
 some 0
def chargenetref18_energies_b15 (a1_energy : List Int) (kl_n_15 : Int → Option Int) (t21_10 : Int) : Option Int :=
 bif decide (t21_10 < ((a1_energy).length : Int)) then (guard ((0 : Int) ≤ t21_10 ∧ t21_10 < ((a1_energy).length : Int)) (bif decide (a1_energy.getD t21_10.toNat 0 < 0) then (some 1) else (bif decide (1099511627776 < a1_energy.getD t21_10.toNat 0) then (some 1) else (kl_n_15 (IntKind.wrap .i64 (t21_10 + 1)))))) else (chargenetref18_energies_p5)
def chargenetref18_energies_l15 (a1_energy : List Int) : Nat → Int → Option Int
 | 0, _ => none
 | n + 1, t21_10 => chargenetref18_energies_b15 a1_energy (fun t21_10 => chargenetref18_energies_l15 a1_energy n t21_10) t21_10
def chargenetref18_energies (F : Nat) (a0_p : SProblem) (a1_energy : List Int) : Option Int :=
 (chargenetref18_Valid F a0_p).bind fun c_1 => bif (!decide (c_1 = 0)) then (some c_1) else (bif (!decide (((a1_energy).length : Int) = ((a0_p.Demands).length : Int))) then (some 1) else (chargenetref18_energies_l15 a1_energy F 0))
def chargenetref18_Usable (F : Nat) (a0_p : SProblem) (a1_d : SDemand) (a2_t : Int) : Option Bool :=
 bif decide (a1_d.Arrive ≤ IntKind.wrap .i64 (a0_p.From + IntKind.wrap .i64 (a2_t * a0_p.Length))) then (some (decide (IntKind.wrap .i64 (IntKind.wrap .i64 (a0_p.From + IntKind.wrap .i64 (a2_t * a0_p.Length)) + a0_p.Length) ≤ a1_d.Depart))) else (some false)
def chargenetref09_Valid_p4  : Option Int :=
 some 0
def chargenetref09_Valid_b24 (a0_n : SNet) (kl_n_24 : Int → Option Int) (i_14 : Int) : Option Int :=
 bif decide (i_14 < ((a0_n.Arcs).length : Int)) then (guard ((0 : Int) ≤ i_14 ∧ i_14 < ((a0_n.Arcs).length : Int)) (bif decide ((a0_n.Arcs.getD i_14.toNat dSArc).From < 0) then (some 2) else (bif decide (a0_n.Nodes ≤ (a0_n.Arcs.getD i_14.toNat dSArc).From) then (some 2) else (bif decide ((a0_n.Arcs.getD i_14.toNat dSArc).To < 0) then (some 2) else (bif decide (a0_n.Nodes ≤ (a0_n.Arcs.getD i_14.toNat dSArc).To) then (some 2) else (bif decide ((a0_n.Arcs.getD i_14.toNat dSArc).From = (a0_n.Arcs.getD i_14.toNat dSArc).To) then (some 1) else (bif decide ((a0_n.Arcs.getD i_14.toNat dSArc).Cap < 0) then (some 2) else (bif decide (1099511627776 < (a0_n.Arcs.getD i_14.toNat dSArc).Cap) then (some 2) else (kl_n_24 (IntKind.wrap .i64 (i_14 + 1))))))))))) else (chargenetref09_Valid_p4)
def chargenetref09_Valid_l24 (a0_n : SNet) : Nat → Int → Option Int
 | 0, _ => none
 | n + 1, i_14 => chargenetref09_Valid_b24 a0_n (fun i_14 => chargenetref09_Valid_l24 a0_n n i_14) i_14
def chargenetref09_Valid (F : Nat) (a0_n : SNet) : Option Int :=
 bif decide (a0_n.Nodes < 2) then (some 2) else (bif decide (256 < a0_n.Nodes) then (some 3) else (bif decide (2048 < ((a0_n.Arcs).length : Int)) then (some 3) else (chargenetref09_Valid_l24 a0_n F 0)))
def chargenetref09_Ends (F : Nat) (a0_n : SNet) (a1_source : Int) (a2_sink : Int) : Option Int :=
 (chargenetref09_Valid F a0_n).bind fun c_1 => bif (!decide (c_1 = 0)) then (some c_1) else (bif decide (a1_source < 0) then (some 2) else (bif decide (a0_n.Nodes ≤ a1_source) then (some 2) else (bif decide (a2_sink < 0) then (some 2) else (bif decide (a0_n.Nodes ≤ a2_sink) then (some 2) else (bif decide (a1_source = a2_sink) then (some 2) else (some 0))))))
end Go.Proofs.Ytmiikbfacgmopaa.M
