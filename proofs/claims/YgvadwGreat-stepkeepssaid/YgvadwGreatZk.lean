import Derived.Test.YgvadwGreatZi
import Derived.Test.YgvadwGreatZj
set_option linter.unusedSimpArgs false
set_option linter.unusedVariables false
namespace Go.Proofs.YgvadwGreat
/-! the statement -/
theorem closedFacts : joinedFacts Hvad.prog 3 Hvad.f3 Rows.stepKeepsSpec Rows.stepKeepsRow = true := by
  unfold joinedFacts
  rw [j1, j2, j3, j4, j5, j7, j9, j10, j11, j12, j13, j14, j15, j16, j17, j17b, j18, j19, j20, j21, j22, j23b, j24, j24b, j24c, j26, j27, j28]
  kernel_rfl
theorem isWrap : Hvad.f3.isWrapper Hvad.prog Rows.stepKeepsRow.wrapper Rows.stepKeepsRow.mainSum := by
  unfold Func.isWrapper; first | (rw [if_pos (by decide +kernel)]; kernel_rfl) | (rw [if_neg (by decide +kernel)]; exact ⟨rfl, rfl⟩)
theorem isInst : Hvad.f3.isInstance Hvad.prog Rows.stepKeepsRow.origin Rows.stepKeepsRow.targs := of_decide_eq_true (by kernel_rfl)
theorem isNamed : Hvad.prog.funcNamed Rows.stepKeepsRow.func = some 3 := by kernel_rfl
theorem over : Rows.stepKeepsRow.holds Hvad.pinned (OpenSpec.ofChange Rows.stepKeepsSpec) :=
  OpenClaim.holds_of_wide 3 Hvad.f3 rfl rfl rfl rfl rfl rfl rfl ⟨rfl, rfl, rfl, rfl, rfl⟩ rfl rfl rfl rfl rfl isNamed Hvad.func3 closedFacts isInst isWrap
    (fun os started H enc _ => lifted os started H enc)
/-- THE STATEMENT -/
theorem proved : Rows.StepKeepsSaid := over
end Go.Proofs.YgvadwGreat
