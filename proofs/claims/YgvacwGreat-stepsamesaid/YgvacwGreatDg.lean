import Derived.Test.YgvacwGreatRows
import Derived.ProofKit
set_option linter.unusedSimpArgs false
set_option linter.unusedVariables false
namespace Go.Proofs.YgvacwGreat
/-! the row's closed facts, one by one -/
theorem j1 : Rows.stepSameRow.wf (OpenSpec.ofChange Rows.stepSameSpec) = true := by kernel_rfl
theorem j2 : laidOutB Hvac.prog = true := by kernel_rfl
theorem j3 : mapsRowed Hvac.prog = true := by kernel_rfl
theorem j4 : Hvac.f3.params.all (Hvac.prog.readableRec ·) = true := by kernel_rfl
theorem j5 : namedTie Hvac.prog Rows.stepSameRow.named Rows.stepSameSpec.vars = true := by kernel_rfl
theorem j7 : (Hvac.prog.stops == []) = true := by kernel_rfl
theorem j9 : (Hvac.prog.stopKnobs == []) = true := by kernel_rfl
theorem j10 : (Rows.stepSameRow.inPlace == Hvac.prog.inPlace 3) = true := by kernel_rfl
theorem j11 : Hvac.prog.unfollowed 3 = false := by kernel_rfl
theorem j12 : Hvac.prog.recurses 3 = false := by kernel_rfl
theorem j13 : (Rows.stepSameRow.named == Hvac.prog.varsNamed 3) = true := by kernel_rfl
theorem j14 : (Rows.stepSameRow.maps == (Hvac.f3.params.toList ++ Rows.stepSameSpec.plain.varTypes Hvac.prog).any (Hvac.prog.mapsRec ·)) = true := by kernel_rfl
theorem j15 : (Rows.stepSameRow.ifaces == (Hvac.f3.params.toList ++ Rows.stepSameSpec.plain.varTypes Hvac.prog).any (Hvac.prog.ifacesRec ·)) = true := by kernel_rfl
theorem j16 : (Rows.stepSameRow.mapsOut == Hvac.prog.mapsAmong Hvac.f3.resultTypes.toList) = true := by kernel_rfl
theorem j17 : (Rows.stepSameRow.loops == (Hvac.f3.params.toList ++ Rows.stepSameSpec.plain.varTypes Hvac.prog).any (Hvac.prog.loopsFrom ·)) = true := by kernel_rfl
theorem j17b : (Rows.stepSameRow.wideKeys == (Hvac.f3.params.toList ++ Rows.stepSameSpec.plain.varTypes Hvac.prog ++ Hvac.f3.resultTypes.toList).any (Hvac.prog.wideKeysFrom ·)) = true := by kernel_rfl
theorem j18 : Rows.stepSameSpec.vars.all (Hvac.prog.varReadable ·) = true := by kernel_rfl
theorem j19 : Hvac.f3.resultTypes.all (fun t => Hvac.prog.readableRec t && decide (t < Hvac.prog.types.size)) = true := by kernel_rfl
theorem j20 : (Rows.stepSameRow.ifacesOut == Hvac.f3.resultTypes.toList.any (Hvac.prog.ifacesRec ·)) = true := by kernel_rfl
theorem j21 : (Rows.stepSameRow.loopsOut == Hvac.f3.resultTypes.toList.any (Hvac.prog.loopsFrom ·)) = true := by kernel_rfl
theorem j22 : (Rows.stepSameRow.plainKeys == Hvac.prog.plainKeys) = true := by kernel_rfl
theorem j23b : Hvac.prog.stopsHeard = true := by kernel_rfl
theorem j24 : Hvac.prog.mayEnter = true := by kernel_rfl
theorem j24b : (Rows.stepSameRow.lifted == Hvac.prog.liftsFinal) = true := by kernel_rfl
theorem j24c : (Hvac.prog.make == some Rows.stepSameRow.make) = true := by kernel_rfl
theorem j26 : (Rows.stepSameRow.pinned == Rows.stepSameRow.pinnedBy) = true := by kernel_rfl
theorem j27 : (Rows.stepSameRow.veiled == (Hvac.f3.params.toList ++ Rows.stepSameSpec.plain.varTypes Hvac.prog ++ Hvac.f3.resultTypes.toList).any (Hvac.prog.veiledRec ·)) = true := by kernel_rfl
theorem j28 : Rows.stepSameRow.veiledFits Hvac.prog Hvac.f3.params.toList (Hvac.f3.params.toList ++ Rows.stepSameSpec.plain.varTypes Hvac.prog ++ Hvac.f3.resultTypes.toList) = true := by kernel_rfl
end Go.Proofs.YgvacwGreat
