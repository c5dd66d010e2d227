/- The statement PlansShare: the walk and the plain law joined. -/
import Derived.Test.YtmiikbfacgmopaaRows
import Derived.Test.YtmiikbfacgmopaaRead
import Derived.Test.YtmiikbfacgmopaaPlain3
import Derived.Test.YtmiikbfacgmopaaV3x6
namespace Go.Proofs.Ytmiikbfacgmopaa.L3
open Go.ChangeShapes Go.WideShapes Go.ChangeAt Go.RowKit Go.Proofs.Ytmiikbfacgmopaa.E Go.Proofs.Ytmiikbfacgmopaa.M Go.Proofs.Ytmiikbfacgmopaa.W
set_option linter.unusedVariables false

theorem own : ownKnob Try.prog.godebug = none := by kernel_rfl
theorem laid : laidOutB Try.prog = true := by kernel_rfl
theorem rowed : rowedB Try.prog Try.f3.params.toList = true := by kernel_rfl

set_option maxRecDepth 100000 in
theorem lifted (os : Os) (started : os.Started) (H : Type) (enc : TypeId × Value → H) :
    ReturnsInHanded {} Try.checked os 3 .any (Rows.plansShareSpec.pre6 enc Try.prog Try.f3 Rows.plansShareRow.domain false) (Rows.plansShareSpec.post enc Try.prog Try.f3 false true false false) := by
  refine returnsInHanded_of_change (C := Try.checked) own started (by kernel_rfl) Try.func3
    (ChangeSpec.witness6 (enc := enc) (C := Try.checked) false ⟨#[], #[.int .i64 0, .int .i64 0, .slice none 0 0], []⟩ 8 (by kernel_rfl) (by kernel_rfl) (by kernel_rfl) (by kernel_rfl)) ?_
  intro W base args ds gs before hval0 hW hcnd _
  have hval : ∀ (j : Nat) t v, Try.f3.params[j]? = some t → args[j]? = some v → Value.okWide Try.prog W .any base t v := hval0
  have hW' := hW
  obtain ⟨p, q, hA0, hV, rfl, hfz, hnd⟩ := hW
  have hA : DataW.TrodAll enc Try.prog W 0 (fun _ => true) true Try.f3.params.toList args.toList ds p := hA0
  rw [Try.params3] at hA hval
  obtain ⟨v0, vs0, d0, ds0, p0, q0, hargs, rfl, rfl, h0, r0⟩ := trodAll_cons hA
  obtain ⟨v1, vs1, d1, ds1, p1, q1, rfl, rfl, rfl, h1, r1⟩ := trodAll_cons r0
  obtain ⟨v2, vs2, d2, ds2, p2, q2, rfl, rfl, rfl, h2, r2⟩ := trodAll_cons r1
  obtain ⟨rfl, rfl, rfl⟩ := trodAll_nil r2
  obtain rfl : args = #[v0, v1, v2] := by cases args; simp_all
  obtain ⟨a0, w0, e0⟩ := arg_one (rd_int Try.underlying3) (by obtain ⟨n, e⟩ := okWide_int Try.underlying3 (hval 0 3 v0 rfl rfl); rw [e]; rfl) h0
  obtain ⟨a1, w1, e1⟩ := arg_one (rd_int Try.underlying3) (by obtain ⟨n, e⟩ := okWide_int Try.underlying3 (hval 1 3 v1 rfl rfl); rw [e]; rfl) h1
  obtain ⟨a2, w2, e2⟩ := arg_one (rd_slice 0 Try.underlying22 (show Try.prog.cellsOf 3 = 1 by kernel_rfl) (rd_int Try.underlying3)) (by obtain ⟨a, l, c, e⟩ := okWide_slice Try.underlying22 (hval 2 22 v2 rfl rfl); rw [e]; rfl) h2
  obtain ⟨F, hF⟩ := plain_chargenettop_PlansShare a0 a1 a2 w0 w1 w2
  have hl : RepAL (ctx0 W) [ci a0, ci a1, .c (vI a2)] [v0, v1, v2] := ⟨e0, e1, e2, trivial⟩
  refine ((chargenettop_PlansShare_ok F a0 a1 a2 true hF).lawB W hl).mono fun e W' ⟨he, hg⟩ => ?_
  subst he
  exact ⟨_, rfl, post_law rfl hW' laid rowed (fun hgs => by rw [hgs]; rfl) (by kernel_rfl) Try.underlying4 hg⟩

theorem proved : Rows.PlansShareSaid :=
  OpenClaim.holds_of_wide 3 Try.f3 rfl rfl rfl rfl rfl rfl rfl ⟨rfl, rfl, rfl, rfl, rfl⟩ rfl rfl rfl rfl rfl (by kernel_rfl) Try.func3 (by kernel_rfl)
    (of_decide_eq_true (by kernel_rfl)) (by unfold Func.isWrapper; first | (rw [if_pos (by decide +kernel)]; kernel_rfl) | (rw [if_neg (by decide +kernel)]; exact ⟨rfl, rfl⟩))
    (fun os started H enc _ => lifted os started H enc)
#print axioms proved
end Go.Proofs.Ytmiikbfacgmopaa.L3
