import Derived.Test.YgvacwGreatDf
import Derived.Test.YgvacwGreatDg
set_option linter.unusedSimpArgs false
set_option linter.unusedVariables false
namespace Go.Proofs.YgvacwGreat
/-! the statement -/
theorem closedFacts : joinedFacts Hvac.prog 3 Hvac.f3 Rows.stepSameSpec Rows.stepSameRow = true := by
  unfold joinedFacts
  rw [j1, j2, j3, j4, j5, j7, j9, j10, j11, j12, j13, j14, j15, j16, j17, j17b, j18, j19, j20, j21, j22, j23b, j24, j24b, j24c, j26, j27, j28]
  kernel_rfl
theorem isWrap : Hvac.f3.isWrapper Hvac.prog Rows.stepSameRow.wrapper Rows.stepSameRow.mainSum := by
  unfold Func.isWrapper; first | (rw [if_pos (by decide +kernel)]; kernel_rfl) | (rw [if_neg (by decide +kernel)]; exact ⟨rfl, rfl⟩)
theorem isInst : Hvac.f3.isInstance Hvac.prog Rows.stepSameRow.origin Rows.stepSameRow.targs := of_decide_eq_true (by kernel_rfl)
theorem isNamed : Hvac.prog.funcNamed Rows.stepSameRow.func = some 3 := by kernel_rfl
theorem over : Rows.stepSameRow.holds Hvac.pinned (OpenSpec.ofChange Rows.stepSameSpec) :=
  OpenClaim.holds_of_wide 3 Hvac.f3 rfl rfl rfl rfl rfl rfl rfl ⟨rfl, rfl, rfl, rfl, rfl⟩ rfl rfl rfl rfl rfl isNamed Hvac.func3 closedFacts isInst isWrap
    (fun os started H enc _ => lifted os started H enc)
/-- THE STATEMENT -/
theorem proved : Rows.StepSameSaid := over
end Go.Proofs.YgvacwGreat
