/- The statement PlanGrows: the walk and the plain law joined. -/
import Derived.Test.YtfefnffdocmlmaaRows
import Derived.Test.YtfefnffdocmlmaaRead
import Derived.Test.YtfefnffdocmlmaaPlain7
import Derived.Test.YtfefnffdocmlmaaV7x5
namespace Go.Proofs.Ytfefnffdocmlmaa.L7
open Go.ChangeShapes Go.WideShapes Go.ChangeAt Go.RowKit Go.Proofs.Ytfefnffdocmlmaa.E Go.Proofs.Ytfefnffdocmlmaa.M Go.Proofs.Ytfefnffdocmlmaa.W
set_option linter.unusedVariables false

theorem own : ownKnob Try.prog.godebug = none := by kernel_rfl
theorem laid : laidOutB Try.prog = true := by kernel_rfl
theorem rowed : rowedB Try.prog Try.f7.params.toList = true := by kernel_rfl

set_option maxRecDepth 100000 in
theorem lifted (os : Os) (started : os.Started) (H : Type) (enc : TypeId × Value → H) :
    ReturnsInHanded {} Try.checked os 7 .any (Rows.planGrowsSpec.pre6 enc Try.prog Try.f7 Rows.planGrowsRow.domain false) (Rows.planGrowsSpec.post enc Try.prog Try.f7 false true false false) := by
  refine returnsInHanded_of_change (C := Try.checked) own started (by kernel_rfl) Try.func7
    (ChangeSpec.witness6 (enc := enc) (C := Try.checked) false ⟨#[], #[.agg #[.slice none 0 0, .slice none 0 0, .int .i64 0, .int .i64 0, .slice none 0 0], .int .u8 0, .int .u8 0], []⟩ 8 (by kernel_rfl) (by kernel_rfl) (by kernel_rfl) (by kernel_rfl)) ?_
  intro W base args ds gs before hval0 hW hcnd _
  have hval : ∀ (j : Nat) t v, Try.f7.params[j]? = some t → args[j]? = some v → Value.okWide Try.prog W .any base t v := hval0
  have hW' := hW
  obtain ⟨p, q, hA0, hV, rfl, hfz, hnd⟩ := hW
  have hA : DataW.TrodAll enc Try.prog W 0 (fun _ => true) true Try.f7.params.toList args.toList ds p := hA0
  rw [Try.params7] at hA hval
  obtain ⟨v0, vs0, d0, ds0, p0, q0, hargs, rfl, rfl, h0, r0⟩ := trodAll_cons hA
  obtain ⟨v1, vs1, d1, ds1, p1, q1, rfl, rfl, rfl, h1, r1⟩ := trodAll_cons r0
  obtain ⟨v2, vs2, d2, ds2, p2, q2, rfl, rfl, rfl, h2, r2⟩ := trodAll_cons r1
  obtain ⟨rfl, rfl, rfl⟩ := trodAll_nil r2
  obtain rfl : args = #[v0, v1, v2] := by cases args; simp_all
  obtain ⟨a0, w0, e0⟩ := arg_agg rdSProblem (by obtain ⟨cs, e, _⟩ := okWide_struct Try.underlying26 (hval 0 26 v0 rfl rfl); exact ⟨cs, e⟩) h0
  obtain ⟨a1, w1, e1⟩ := arg_one (rd_int Try.underlying5) (by obtain ⟨n, e⟩ := okWide_int Try.underlying5 (hval 1 5 v1 rfl rfl); rw [e]; rfl) h1
  obtain ⟨a2, w2, e2⟩ := arg_one (rd_int Try.underlying5) (by obtain ⟨n, e⟩ := okWide_int Try.underlying5 (hval 2 5 v2 rfl rfl); rw [e]; rfl) h2
  obtain ⟨F, hF⟩ := plain_chargenetlaw18_PlanGrows a0 a1 a2 w0 w1 w2
  have hl : RepAL (ctx0 W) [.a (bSProblem a0), .c (.int .u8 a1), .c (.int .u8 a2)] [v0, v1, v2] := ⟨e0, e1, e2, trivial⟩
  refine ((chargenetlaw18_PlanGrows_ok F a0 a1 a2 true hF).lawB W hl).mono fun e W' ⟨he, hg⟩ => ?_
  subst he
  exact ⟨_, rfl, post_law rfl hW' laid rowed (fun hgs => by rw [hgs]; rfl) (by kernel_rfl) Try.underlying4 hg⟩

theorem proved : Rows.PlanGrowsSaid :=
  OpenClaim.holds_of_wide 7 Try.f7 rfl rfl rfl rfl rfl rfl rfl ⟨rfl, rfl, rfl, rfl, rfl⟩ rfl rfl rfl rfl rfl (by kernel_rfl) Try.func7 (by kernel_rfl)
    (of_decide_eq_true (by kernel_rfl)) (by unfold Func.isWrapper; first | (rw [if_pos (by decide +kernel)]; kernel_rfl) | (rw [if_neg (by decide +kernel)]; exact ⟨rfl, rfl⟩))
    (fun os started H enc _ => lifted os started H enc)
#print axioms proved
end Go.Proofs.Ytfefnffdocmlmaa.L7
