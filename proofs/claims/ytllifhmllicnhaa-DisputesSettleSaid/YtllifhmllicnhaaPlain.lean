/- The plain law: what the models compute is true. -/
import Derived.Test.YtllifhmllicnhaaModel
import Derived.IntWalk
namespace Go.Proofs.Ytllifhmllicnhaa.M
open Go Go.Proofs.Ytllifhmllicnhaa.E
set_option linter.unusedSimpArgs false
def id0 : ByteArray := (ByteArray.mk #[99]) ++ (bytesS ([IntKind.wrap .u8 (IntKind.wrap .i64 (48 + 0))]))
def se0 : ByteArray := (ByteArray.mk #[83, 45]) ++ (bytesS ([IntKind.wrap .u8 (IntKind.wrap .i64 (48 + 0))]))
theorem names0 : cdr_names 50 [id0, ByteArray.mk #[65], ByteArray.mk #[66], se0, ByteArray.mk #[84]] = some 0 := by decide
theorem cur0 : cdr_isCurrency 50 (ByteArray.mk #[69, 85, 82]) = some true := by decide
theorem v66 : ident_Valid 50 (ByteArray.mk #[66]) = some true := by decide
theorem vid : ident_Valid 50 id0 = some true := by decide
theorem i64n {n : Int} (h : 0 ≤ n ∧ n ≤ 65535) : IntKind.wrap .i64 n = n := IntWalk.i64_in n (by omega)
def cdr0 (n : Int) : SCDR := SCDR.mk id0 (ByteArray.mk #[65]) (ByteArray.mk #[66]) se0 1 0 30 n (ByteArray.mk #[84]) (ByteArray.mk #[69, 85, 82]) [SItem.mk 2 300 0 n n 0 n] n false ByteArray.empty
theorem dealt0 {n : Int} (h : 0 ≤ n ∧ n ≤ 65535) : chargenettop_dealt 50 0 (SDeal.mk false n 0 0 false) = some (cdr0 n) := by
  simp only [chargenettop_dealt, chargenettop_dealt_p5, i64n h]
  rfl
theorem within1 (F : Nat) (a b x : Int) (h : a ≤ x ∧ x ≤ b) : cdr_within (F + 2) a b [x] = some true := by
  simp [cdr_within, cdr_within_l11, cdr_within_b11, cdr_within_p1, E.guard, show ¬ x < a by omega, show ¬ b < x by omega, show IntKind.wrap .i64 (0 + 1) = 1 from rfl, show IntKind.wrap .i64 1 = 1 from rfl]
theorem within2 (F : Nat) (a b x y : Int) (h : a ≤ x ∧ x ≤ b) (h2 : a ≤ y ∧ y ≤ b) : cdr_within (F + 3) a b [x, y] = some true := by
  simp [cdr_within, cdr_within_l11, cdr_within_b11, cdr_within_p1, E.guard, show ¬ x < a by omega, show ¬ b < x by omega, show ¬ y < a by omega, show ¬ b < y by omega, show IntKind.wrap .i64 1 = 1 from rfl, show IntKind.wrap .i64 2 = 2 from rfl]
theorem within3 (F : Nat) (a b x y z : Int) (h : a ≤ x ∧ x ≤ b) (h2 : a ≤ y ∧ y ≤ b) (h3 : a ≤ z ∧ z ≤ b) : cdr_within (F + 4) a b [x, y, z] = some true := by
  simp [cdr_within, cdr_within_l11, cdr_within_b11, cdr_within_p1, E.guard, show ¬ x < a by omega, show ¬ b < x by omega, show ¬ y < a by omega, show ¬ b < y by omega, show ¬ z < a by omega, show ¬ b < z by omega, show IntKind.wrap .i64 1 = 1 from rfl, show IntKind.wrap .i64 2 = 2 from rfl, show IntKind.wrap .i64 3 = 3 from rfl]
theorem items0 {n : Int} (h : 0 ≤ n ∧ n ≤ 65535) : cdr_validItems 50 (cdr0 n) = some 0 := by
  have e := i64n h
  have key : ∀ F, cdr_validItems_l17 50 (cdr0 n) (F + 2) 0 0 = some 0 := by
    intro F
    simp [cdr_validItems_l17, cdr_validItems_b17, cdr_validItems_p4, E.guard, cdr0, cdr_validItem, within1 48, within3 46, h, show IntKind.wrap .i64 1 = 1 from rfl, e, show n ≤ 36028797018963968 by omega, show -36028797018963968 ≤ n by omega]
  have := key 48
  simpa [cdr_validItems, cdr0] using this
theorem valid0 {n : Int} (h : 0 ≤ n ∧ n ≤ 65535) : cdr_Valid 50 (cdr0 n) = some 0 := by
  have hi := items0 h
  have hn := names0
  have hc := cur0
  unfold cdr_Valid
  rw [hi]
  simp [cdr0, hn, hc, within1 48, within2 47, sEq, h, show n ≤ 36028797018963968 by omega, cdr_validRef, ByteArray.empty, ByteArray.emptyWithCapacity]
theorem plain (net claim granted : Int) (h1 : 0 ≤ net ∧ net ≤ 65535) (h2 : 0 ≤ claim ∧ claim ≤ 65535) (h3 : 0 ≤ granted ∧ granted ≤ 65535) : chargenettop_DisputesSettle 50 net claim granted = some true := by
  have e1 := i64n h1
  have e2 := i64n h2
  have e3 := i64n h3
  unfold chargenettop_DisputesSettle
  rw [dealt0 h1]
  by_cases c1 : claim < 1
  · simp [c1]
  by_cases c2 : net < claim
  · simp [c1, c2]
  by_cases c3 : granted < 1
  · simp [c1, c2, c3]
  by_cases c4 : claim < granted
  · simp [c1, c2, c3, c4]
  have hv := valid0 h1
  have hB := v66
  have hI := vid
  have ho : dispute_Open 50 (cdr0 net) (ByteArray.mk #[66]) claim 100 = some (SDispute.mk id0 (ByteArray.mk #[66]) 1 100 claim 0, 0) := by
    unfold dispute_Open
    rw [hv]
    simp [cdr0, sEq, show ¬ claim < 1 by omega, show ¬ net < claim by omega, show ¬ 36028797018963968 < claim by omega, show IntKind.wrap .i64 (30 + 43200) = 43230 from rfl, show IntKind.wrap .i64 43230 = 43230 from rfl]
  have hva : dispute_Valid 50 (SDispute.mk id0 (ByteArray.mk #[66]) 4 100 claim granted) = some 0 := by
    unfold dispute_Valid
    simp [hB, hI, show ¬ claim < 1 by omega, show ¬ 36028797018963968 < claim by omega, show ¬ granted < 0 by omega, show ¬ claim < granted by omega, show ¬ granted = 0 by omega]
  have ha : dispute_Amount 50 (cdr0 net) [SDispute.mk id0 (ByteArray.mk #[66]) 4 100 claim granted] = some (net - granted) := by
    have key : ∀ F, dispute_Amount_l13 (cdr0 net) [SDispute.mk id0 (ByteArray.mk #[66]) 4 100 claim granted] (F + 2) 0 = some (net - granted) := by
      intro F
      simp [dispute_Amount_l13, dispute_Amount_b13, E.guard, cdr0, sEq]
      exact IntWalk.i64_in _ (by omega)
    exact key 48
  simp [c1, c2, c3, c4, e1, e2, e3, ho, hva, ha]
  exact (IntWalk.i64_in _ (by omega)).symm
end Go.Proofs.Ytllifhmllicnhaa.M
