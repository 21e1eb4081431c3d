/- The law FnExactJudgeAll returns true and never panics, for all arguments. No condition. -/
import Derived.Test.YtebbppogicgpkaaGreatRows
import Derived.WalkKit
import Derived.ProofKit
import Derived.OpenShut
import Derived.ShutString
import Derived.ChangeOld
import Derived.Below
import Derived.SizedLaws
namespace Go.Proofs.YtebbppogicgpkaaGreat.fnExactJudgeAll
open Go.ChangeShapes Go.WideShapes Go.ChangeAt Go.RowKit
open Go.ChangeMaps (open_string shut_string)
set_option linter.unusedVariables false
set_option linter.unusedSimpArgs false
theorem x0 : (Rows.fnExactJudgeAllRow.wf (OpenSpec.ofChange Rows.fnExactJudgeAllSpec)) = true := by kernel_rfl
theorem x1 : (laidOutB Tryz.prog) = true := by kernel_rfl
theorem x2 : (mapsRowed Tryz.prog) = true := by kernel_rfl
theorem x3 : (Tryz.f13.params.all (Tryz.prog.readableRec ·)) = true := by kernel_rfl
theorem x4 : (namedTie Tryz.prog Rows.fnExactJudgeAllRow.named Rows.fnExactJudgeAllSpec.vars) = true := by kernel_rfl
theorem x5 : ((Rows.fnExactJudgeAllRow.stops == [])) = true := by kernel_rfl
theorem x6 : ((Tryz.prog.stops == [])) = true := by kernel_rfl
theorem x7 : ((Rows.fnExactJudgeAllRow.knobs == [])) = true := by kernel_rfl
theorem x8 : ((Tryz.prog.stopKnobs == [])) = true := by kernel_rfl
theorem x9 : ((Rows.fnExactJudgeAllRow.inPlace == Tryz.prog.inPlace 13)) = true := by kernel_rfl
theorem x10 : ((Rows.fnExactJudgeAllRow.unfollowed == Tryz.prog.unfollowed 13)) = true := by kernel_rfl
theorem x11 : ((Rows.fnExactJudgeAllRow.recurses == Tryz.prog.recurses 13)) = true := by kernel_rfl
theorem x12 : ((Rows.fnExactJudgeAllRow.named == Tryz.prog.varsNamed 13)) = true := by kernel_rfl
theorem x13 : ((Rows.fnExactJudgeAllRow.maps == (Tryz.f13.params.toList ++ Rows.fnExactJudgeAllSpec.plain.varTypes Tryz.prog).any (Tryz.prog.mapsRec ·))) = true := by kernel_rfl
theorem x14 : ((Rows.fnExactJudgeAllRow.ifaces == (Tryz.f13.params.toList ++ Rows.fnExactJudgeAllSpec.plain.varTypes Tryz.prog).any (Tryz.prog.ifacesRec ·))) = true := by kernel_rfl
theorem x15 : ((Rows.fnExactJudgeAllRow.mapsOut == Tryz.prog.mapsAmong Tryz.f13.resultTypes.toList)) = true := by kernel_rfl
theorem x16 : ((Rows.fnExactJudgeAllRow.loops == (Tryz.f13.params.toList ++ Rows.fnExactJudgeAllSpec.plain.varTypes Tryz.prog).any (Tryz.prog.loopsFrom ·))) = true := by kernel_rfl
theorem x17 : ((Rows.fnExactJudgeAllRow.wideKeys == (Tryz.f13.params.toList ++ Rows.fnExactJudgeAllSpec.plain.varTypes Tryz.prog ++ Tryz.f13.resultTypes.toList).any (Tryz.prog.wideKeysFrom ·))) = true := by kernel_rfl
theorem x18 : (Rows.fnExactJudgeAllSpec.vars.all (Tryz.prog.varReadable ·)) = true := by kernel_rfl
theorem x19 : (Tryz.f13.resultTypes.all (fun t => Tryz.prog.readableRec t && decide (t < Tryz.prog.types.size))) = true := by kernel_rfl
theorem x20 : ((Rows.fnExactJudgeAllRow.ifacesOut == Tryz.f13.resultTypes.toList.any (Tryz.prog.ifacesRec ·))) = true := by kernel_rfl
theorem x21 : ((Rows.fnExactJudgeAllRow.loopsOut == Tryz.f13.resultTypes.toList.any (Tryz.prog.loopsFrom ·))) = true := by kernel_rfl
theorem x22 : ((Rows.fnExactJudgeAllRow.plainKeys == Tryz.prog.plainKeys)) = true := by kernel_rfl
theorem x23 : (Rows.fnExactJudgeAllRow.shortTexts.isNone) = true := by kernel_rfl
theorem x24 : (Tryz.prog.stopsHeard) = true := by kernel_rfl
theorem x25 : (Tryz.prog.mayEnter) = true := by kernel_rfl
theorem x26 : ((Rows.fnExactJudgeAllRow.lifted == Tryz.prog.liftsFinal)) = true := by kernel_rfl
theorem x27 : ((Tryz.prog.make == some Rows.fnExactJudgeAllRow.make)) = true := by kernel_rfl
theorem x29 : ((Rows.fnExactJudgeAllRow.pinned == Rows.fnExactJudgeAllRow.pinnedBy)) = true := by kernel_rfl
theorem x30 : ((Rows.fnExactJudgeAllRow.veiled == (Tryz.f13.params.toList ++ Rows.fnExactJudgeAllSpec.plain.varTypes Tryz.prog ++ Tryz.f13.resultTypes.toList).any (Tryz.prog.veiledRec ·))) = true := by kernel_rfl
theorem x31 : (Rows.fnExactJudgeAllRow.veiledFits Tryz.prog Tryz.f13.params.toList (Tryz.f13.params.toList ++ Rows.fnExactJudgeAllSpec.plain.varTypes Tryz.prog ++ Tryz.f13.resultTypes.toList)) = true := by kernel_rfl
end Go.Proofs.YtebbppogicgpkaaGreat.fnExactJudgeAll
