import Derived.Test.YgvadwGreatRows
import Derived.ProofKit
set_option linter.unusedSimpArgs false
set_option linter.unusedVariables false
namespace Go.Proofs.YgvadwGreat
/-! the row's closed facts, one by one -/
theorem j1 : Rows.stepKeepsRow.wf (OpenSpec.ofChange Rows.stepKeepsSpec) = true := by kernel_rfl
theorem j2 : laidOutB Hvad.prog = true := by kernel_rfl
theorem j3 : mapsRowed Hvad.prog = true := by kernel_rfl
theorem j4 : Hvad.f3.params.all (Hvad.prog.readableRec ·) = true := by kernel_rfl
theorem j5 : namedTie Hvad.prog Rows.stepKeepsRow.named Rows.stepKeepsSpec.vars = true := by kernel_rfl
theorem j7 : (Hvad.prog.stops == []) = true := by kernel_rfl
theorem j9 : (Hvad.prog.stopKnobs == []) = true := by kernel_rfl
theorem j10 : (Rows.stepKeepsRow.inPlace == Hvad.prog.inPlace 3) = true := by kernel_rfl
theorem j11 : Hvad.prog.unfollowed 3 = false := by kernel_rfl
theorem j12 : Hvad.prog.recurses 3 = false := by kernel_rfl
theorem j13 : (Rows.stepKeepsRow.named == Hvad.prog.varsNamed 3) = true := by kernel_rfl
theorem j14 : (Rows.stepKeepsRow.maps == (Hvad.f3.params.toList ++ Rows.stepKeepsSpec.plain.varTypes Hvad.prog).any (Hvad.prog.mapsRec ·)) = true := by kernel_rfl
theorem j15 : (Rows.stepKeepsRow.ifaces == (Hvad.f3.params.toList ++ Rows.stepKeepsSpec.plain.varTypes Hvad.prog).any (Hvad.prog.ifacesRec ·)) = true := by kernel_rfl
theorem j16 : (Rows.stepKeepsRow.mapsOut == Hvad.prog.mapsAmong Hvad.f3.resultTypes.toList) = true := by kernel_rfl
theorem j17 : (Rows.stepKeepsRow.loops == (Hvad.f3.params.toList ++ Rows.stepKeepsSpec.plain.varTypes Hvad.prog).any (Hvad.prog.loopsFrom ·)) = true := by kernel_rfl
theorem j17b : (Rows.stepKeepsRow.wideKeys == (Hvad.f3.params.toList ++ Rows.stepKeepsSpec.plain.varTypes Hvad.prog ++ Hvad.f3.resultTypes.toList).any (Hvad.prog.wideKeysFrom ·)) = true := by kernel_rfl
theorem j18 : Rows.stepKeepsSpec.vars.all (Hvad.prog.varReadable ·) = true := by kernel_rfl
theorem j19 : Hvad.f3.resultTypes.all (fun t => Hvad.prog.readableRec t && decide (t < Hvad.prog.types.size)) = true := by kernel_rfl
theorem j20 : (Rows.stepKeepsRow.ifacesOut == Hvad.f3.resultTypes.toList.any (Hvad.prog.ifacesRec ·)) = true := by kernel_rfl
theorem j21 : (Rows.stepKeepsRow.loopsOut == Hvad.f3.resultTypes.toList.any (Hvad.prog.loopsFrom ·)) = true := by kernel_rfl
theorem j22 : (Rows.stepKeepsRow.plainKeys == Hvad.prog.plainKeys) = true := by kernel_rfl
theorem j23b : Hvad.prog.stopsHeard = true := by kernel_rfl
theorem j24 : Hvad.prog.mayEnter = true := by kernel_rfl
theorem j24b : (Rows.stepKeepsRow.lifted == Hvad.prog.liftsFinal) = true := by kernel_rfl
theorem j24c : (Hvad.prog.make == some Rows.stepKeepsRow.make) = true := by kernel_rfl
theorem j26 : (Rows.stepKeepsRow.pinned == Rows.stepKeepsRow.pinnedBy) = true := by kernel_rfl
theorem j27 : (Rows.stepKeepsRow.veiled == (Hvad.f3.params.toList ++ Rows.stepKeepsSpec.plain.varTypes Hvad.prog ++ Hvad.f3.resultTypes.toList).any (Hvad.prog.veiledRec ·)) = true := by kernel_rfl
theorem j28 : Rows.stepKeepsRow.veiledFits Hvad.prog Hvad.f3.params.toList (Hvad.f3.params.toList ++ Rows.stepKeepsSpec.plain.varTypes Hvad.prog ++ Hvad.f3.resultTypes.toList) = true := by kernel_rfl
end Go.Proofs.YgvadwGreat
