/- The statement SettleCredits: the walk and the plain law joined. -/
import Derived.Test.YtoncfkdgddfnlaaRows
import Derived.Test.YtoncfkdgddfnlaaRead
import Derived.Test.YtoncfkdgddfnlaaPlain7
import Derived.Test.YtoncfkdgddfnlaaV7x4
namespace Go.Proofs.Ytoncfkdgddfnlaa.L7
open Go.ChangeShapes Go.WideShapes Go.ChangeAt Go.RowKit Go.Proofs.Ytoncfkdgddfnlaa.E Go.Proofs.Ytoncfkdgddfnlaa.M Go.Proofs.Ytoncfkdgddfnlaa.W
set_option linter.unusedVariables false

theorem own : ownKnob Try.prog.godebug = none := by kernel_rfl
theorem laid : laidOutB Try.prog = true := by kernel_rfl
theorem rowed : rowedB Try.prog Try.f7.params.toList = true := by kernel_rfl

set_option maxRecDepth 100000 in
theorem lifted (os : Os) (started : os.Started) (H : Type) (enc : TypeId × Value → H) :
    ReturnsInHanded {} Try.checked os 7 .any (Rows.settleCreditsSpec.pre6 enc Try.prog Try.f7 Rows.settleCreditsRow.domain false) (Rows.settleCreditsSpec.post enc Try.prog Try.f7 false true false false) := by
  refine returnsInHanded_of_change (C := Try.checked) own started (by kernel_rfl) Try.func7
    (ChangeSpec.witness6 (enc := enc) (C := Try.checked) false ⟨#[], #[.agg #[.slice none 0 0, .slice none 0 0, .string ByteArray.empty, .string ByteArray.empty, .string ByteArray.empty, .int .i64 0, .int .i64 0]], []⟩ 8 (by kernel_rfl) (by kernel_rfl) (by kernel_rfl) (by kernel_rfl)) ?_
  intro W base args ds gs before hval0 hW hcnd _
  have hval : ∀ (j : Nat) t v, Try.f7.params[j]? = some t → args[j]? = some v → Value.okWide Try.prog W .any base t v := hval0
  have hW' := hW
  obtain ⟨p, q, hA0, hV, rfl, hfz, hnd⟩ := hW
  have hA : DataW.TrodAll enc Try.prog W 0 (fun _ => true) true Try.f7.params.toList args.toList ds p := hA0
  rw [Try.params7] at hA hval
  obtain ⟨v0, vs0, d0, ds0, p0, q0, hargs, rfl, rfl, h0, r0⟩ := trodAll_cons hA
  obtain ⟨rfl, rfl, rfl⟩ := trodAll_nil r0
  obtain rfl : args = #[v0] := by cases args; simp_all
  obtain ⟨a0, w0, e0⟩ := arg_agg rdSCase (by obtain ⟨cs, e, _⟩ := okWide_struct Try.underlying41 (hval 0 41 v0 rfl rfl); exact ⟨cs, e⟩) h0
  obtain ⟨F, hF⟩ := plain_chargenetlaw49_SettleCredits a0 w0
  have hl : RepAL (ctx0 W) [.a (bSCase a0)] [v0] := ⟨e0, trivial⟩
  refine ((chargenetlaw49_SettleCredits_ok F a0 true hF).lawB W hl).mono fun e W' ⟨he, hg⟩ => ?_
  subst he
  exact ⟨_, rfl, post_law rfl hW' laid rowed (fun hgs => by rw [hgs]; rfl) (by kernel_rfl) Try.underlying4 hg⟩

theorem proved : Rows.SettleCreditsSaid :=
  OpenClaim.holds_of_wide 7 Try.f7 rfl rfl rfl rfl rfl rfl rfl ⟨rfl, rfl, rfl, rfl, rfl⟩ rfl rfl rfl rfl rfl (by kernel_rfl) Try.func7 (by kernel_rfl)
    (of_decide_eq_true (by kernel_rfl)) (by unfold Func.isWrapper; first | (rw [if_pos (by decide +kernel)]; kernel_rfl) | (rw [if_neg (by decide +kernel)]; exact ⟨rfl, rfl⟩))
    (fun os started H enc _ => lifted os started H enc)
#print axioms proved
end Go.Proofs.Ytoncfkdgddfnlaa.L7
