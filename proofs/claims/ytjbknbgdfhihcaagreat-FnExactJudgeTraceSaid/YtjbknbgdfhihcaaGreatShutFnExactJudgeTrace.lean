/- The law FnExactJudgeTrace returns true and never panics, for all arguments. No condition. -/
import Derived.Test.YtjbknbgdfhihcaaGreatRows
import Derived.WalkKit
import Derived.ProofKit
import Derived.OpenShut
import Derived.ShutString
import Derived.ChangeOld
import Derived.Below
import Derived.SizedLaws
namespace Go.Proofs.YtjbknbgdfhihcaaGreat.fnExactJudgeTrace
open Go.ChangeShapes Go.WideShapes Go.ChangeAt Go.RowKit
open Go.ChangeMaps (open_string shut_string)
set_option linter.unusedVariables false
set_option linter.unusedSimpArgs false
theorem x0 : (Rows.fnExactJudgeTraceRow.wf (OpenSpec.ofChange Rows.fnExactJudgeTraceSpec)) = true := by kernel_rfl
theorem x1 : (laidOutB Tryz.prog) = true := by kernel_rfl
theorem x2 : (mapsRowed Tryz.prog) = true := by kernel_rfl
theorem x3 : (Tryz.f10.params.all (Tryz.prog.readableRec ·)) = true := by kernel_rfl
theorem x4 : (namedTie Tryz.prog Rows.fnExactJudgeTraceRow.named Rows.fnExactJudgeTraceSpec.vars) = true := by kernel_rfl
theorem x5 : ((Rows.fnExactJudgeTraceRow.stops == [])) = true := by kernel_rfl
theorem x6 : ((Tryz.prog.stops == [])) = true := by kernel_rfl
theorem x7 : ((Rows.fnExactJudgeTraceRow.knobs == [])) = true := by kernel_rfl
theorem x8 : ((Tryz.prog.stopKnobs == [])) = true := by kernel_rfl
theorem x9 : ((Rows.fnExactJudgeTraceRow.inPlace == Tryz.prog.inPlace 10)) = true := by kernel_rfl
theorem x10 : ((Rows.fnExactJudgeTraceRow.unfollowed == Tryz.prog.unfollowed 10)) = true := by kernel_rfl
theorem x11 : ((Rows.fnExactJudgeTraceRow.recurses == Tryz.prog.recurses 10)) = true := by kernel_rfl
theorem x12 : ((Rows.fnExactJudgeTraceRow.named == Tryz.prog.varsNamed 10)) = true := by kernel_rfl
theorem x13 : ((Rows.fnExactJudgeTraceRow.maps == (Tryz.f10.params.toList ++ Rows.fnExactJudgeTraceSpec.plain.varTypes Tryz.prog).any (Tryz.prog.mapsRec ·))) = true := by kernel_rfl
theorem x14 : ((Rows.fnExactJudgeTraceRow.ifaces == (Tryz.f10.params.toList ++ Rows.fnExactJudgeTraceSpec.plain.varTypes Tryz.prog).any (Tryz.prog.ifacesRec ·))) = true := by kernel_rfl
theorem x15 : ((Rows.fnExactJudgeTraceRow.mapsOut == Tryz.prog.mapsAmong Tryz.f10.resultTypes.toList)) = true := by kernel_rfl
theorem x16 : ((Rows.fnExactJudgeTraceRow.loops == (Tryz.f10.params.toList ++ Rows.fnExactJudgeTraceSpec.plain.varTypes Tryz.prog).any (Tryz.prog.loopsFrom ·))) = true := by kernel_rfl
theorem x17 : ((Rows.fnExactJudgeTraceRow.wideKeys == (Tryz.f10.params.toList ++ Rows.fnExactJudgeTraceSpec.plain.varTypes Tryz.prog ++ Tryz.f10.resultTypes.toList).any (Tryz.prog.wideKeysFrom ·))) = true := by kernel_rfl
theorem x18 : (Rows.fnExactJudgeTraceSpec.vars.all (Tryz.prog.varReadable ·)) = true := by kernel_rfl
theorem x19 : (Tryz.f10.resultTypes.all (fun t => Tryz.prog.readableRec t && decide (t < Tryz.prog.types.size))) = true := by kernel_rfl
theorem x20 : ((Rows.fnExactJudgeTraceRow.ifacesOut == Tryz.f10.resultTypes.toList.any (Tryz.prog.ifacesRec ·))) = true := by kernel_rfl
theorem x21 : ((Rows.fnExactJudgeTraceRow.loopsOut == Tryz.f10.resultTypes.toList.any (Tryz.prog.loopsFrom ·))) = true := by kernel_rfl
theorem x22 : ((Rows.fnExactJudgeTraceRow.plainKeys == Tryz.prog.plainKeys)) = true := by kernel_rfl
theorem x23 : (Rows.fnExactJudgeTraceRow.shortTexts.isNone) = true := by kernel_rfl
theorem x24 : (Tryz.prog.stopsHeard) = true := by kernel_rfl
theorem x25 : (Tryz.prog.mayEnter) = true := by kernel_rfl
theorem x26 : ((Rows.fnExactJudgeTraceRow.lifted == Tryz.prog.liftsFinal)) = true := by kernel_rfl
theorem x27 : ((Tryz.prog.make == some Rows.fnExactJudgeTraceRow.make)) = true := by kernel_rfl
theorem x29 : ((Rows.fnExactJudgeTraceRow.pinned == Rows.fnExactJudgeTraceRow.pinnedBy)) = true := by kernel_rfl
theorem x30 : ((Rows.fnExactJudgeTraceRow.veiled == (Tryz.f10.params.toList ++ Rows.fnExactJudgeTraceSpec.plain.varTypes Tryz.prog ++ Tryz.f10.resultTypes.toList).any (Tryz.prog.veiledRec ·))) = true := by kernel_rfl
theorem x31 : (Rows.fnExactJudgeTraceRow.veiledFits Tryz.prog Tryz.f10.params.toList (Tryz.f10.params.toList ++ Rows.fnExactJudgeTraceSpec.plain.varTypes Tryz.prog ++ Tryz.f10.resultTypes.toList)) = true := by kernel_rfl
end Go.Proofs.YtjbknbgdfhihcaaGreat.fnExactJudgeTrace
