/- The law FnExactJudgeLate returns true and never panics, for all arguments. No condition. -/
import Derived.Test.YtebbppogicgpkaaGreatRows
import Derived.WalkKit
import Derived.ProofKit
import Derived.OpenShut
import Derived.ShutString
import Derived.ChangeOld
import Derived.Below
import Derived.SizedLaws
namespace Go.Proofs.YtebbppogicgpkaaGreat.fnExactJudgeLate
open Go.ChangeShapes Go.WideShapes Go.ChangeAt Go.RowKit
open Go.ChangeMaps (open_string shut_string)
set_option linter.unusedVariables false
set_option linter.unusedSimpArgs false
theorem x0 : (Rows.fnExactJudgeLateRow.wf (OpenSpec.ofChange Rows.fnExactJudgeLateSpec)) = true := by kernel_rfl
theorem x1 : (laidOutB Tryz.prog) = true := by kernel_rfl
theorem x2 : (mapsRowed Tryz.prog) = true := by kernel_rfl
theorem x3 : (Tryz.f9.params.all (Tryz.prog.readableRec ·)) = true := by kernel_rfl
theorem x4 : (namedTie Tryz.prog Rows.fnExactJudgeLateRow.named Rows.fnExactJudgeLateSpec.vars) = true := by kernel_rfl
theorem x5 : ((Rows.fnExactJudgeLateRow.stops == [])) = true := by kernel_rfl
theorem x6 : ((Tryz.prog.stops == [])) = true := by kernel_rfl
theorem x7 : ((Rows.fnExactJudgeLateRow.knobs == [])) = true := by kernel_rfl
theorem x8 : ((Tryz.prog.stopKnobs == [])) = true := by kernel_rfl
theorem x9 : ((Rows.fnExactJudgeLateRow.inPlace == Tryz.prog.inPlace 9)) = true := by kernel_rfl
theorem x10 : ((Rows.fnExactJudgeLateRow.unfollowed == Tryz.prog.unfollowed 9)) = true := by kernel_rfl
theorem x11 : ((Rows.fnExactJudgeLateRow.recurses == Tryz.prog.recurses 9)) = true := by kernel_rfl
theorem x12 : ((Rows.fnExactJudgeLateRow.named == Tryz.prog.varsNamed 9)) = true := by kernel_rfl
theorem x13 : ((Rows.fnExactJudgeLateRow.maps == (Tryz.f9.params.toList ++ Rows.fnExactJudgeLateSpec.plain.varTypes Tryz.prog).any (Tryz.prog.mapsRec ·))) = true := by kernel_rfl
theorem x14 : ((Rows.fnExactJudgeLateRow.ifaces == (Tryz.f9.params.toList ++ Rows.fnExactJudgeLateSpec.plain.varTypes Tryz.prog).any (Tryz.prog.ifacesRec ·))) = true := by kernel_rfl
theorem x15 : ((Rows.fnExactJudgeLateRow.mapsOut == Tryz.prog.mapsAmong Tryz.f9.resultTypes.toList)) = true := by kernel_rfl
theorem x16 : ((Rows.fnExactJudgeLateRow.loops == (Tryz.f9.params.toList ++ Rows.fnExactJudgeLateSpec.plain.varTypes Tryz.prog).any (Tryz.prog.loopsFrom ·))) = true := by kernel_rfl
theorem x17 : ((Rows.fnExactJudgeLateRow.wideKeys == (Tryz.f9.params.toList ++ Rows.fnExactJudgeLateSpec.plain.varTypes Tryz.prog ++ Tryz.f9.resultTypes.toList).any (Tryz.prog.wideKeysFrom ·))) = true := by kernel_rfl
theorem x18 : (Rows.fnExactJudgeLateSpec.vars.all (Tryz.prog.varReadable ·)) = true := by kernel_rfl
theorem x19 : (Tryz.f9.resultTypes.all (fun t => Tryz.prog.readableRec t && decide (t < Tryz.prog.types.size))) = true := by kernel_rfl
theorem x20 : ((Rows.fnExactJudgeLateRow.ifacesOut == Tryz.f9.resultTypes.toList.any (Tryz.prog.ifacesRec ·))) = true := by kernel_rfl
theorem x21 : ((Rows.fnExactJudgeLateRow.loopsOut == Tryz.f9.resultTypes.toList.any (Tryz.prog.loopsFrom ·))) = true := by kernel_rfl
theorem x22 : ((Rows.fnExactJudgeLateRow.plainKeys == Tryz.prog.plainKeys)) = true := by kernel_rfl
theorem x23 : (Rows.fnExactJudgeLateRow.shortTexts.isNone) = true := by kernel_rfl
theorem x24 : (Tryz.prog.stopsHeard) = true := by kernel_rfl
theorem x25 : (Tryz.prog.mayEnter) = true := by kernel_rfl
theorem x26 : ((Rows.fnExactJudgeLateRow.lifted == Tryz.prog.liftsFinal)) = true := by kernel_rfl
theorem x27 : ((Tryz.prog.make == some Rows.fnExactJudgeLateRow.make)) = true := by kernel_rfl
theorem x29 : ((Rows.fnExactJudgeLateRow.pinned == Rows.fnExactJudgeLateRow.pinnedBy)) = true := by kernel_rfl
theorem x30 : ((Rows.fnExactJudgeLateRow.veiled == (Tryz.f9.params.toList ++ Rows.fnExactJudgeLateSpec.plain.varTypes Tryz.prog ++ Tryz.f9.resultTypes.toList).any (Tryz.prog.veiledRec ·))) = true := by kernel_rfl
theorem x31 : (Rows.fnExactJudgeLateRow.veiledFits Tryz.prog Tryz.f9.params.toList (Tryz.f9.params.toList ++ Rows.fnExactJudgeLateSpec.plain.varTypes Tryz.prog ++ Tryz.f9.resultTypes.toList)) = true := by kernel_rfl
end Go.Proofs.YtebbppogicgpkaaGreat.fnExactJudgeLate
