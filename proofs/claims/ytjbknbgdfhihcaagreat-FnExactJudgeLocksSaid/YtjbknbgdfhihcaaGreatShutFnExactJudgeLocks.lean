/- The law FnExactJudgeLocks returns true and never panics, for all arguments. No condition. -/
import Derived.Test.YtjbknbgdfhihcaaGreatRows
import Derived.WalkKit
import Derived.ProofKit
import Derived.OpenShut
import Derived.ShutString
import Derived.ChangeOld
import Derived.Below
import Derived.SizedLaws
namespace Go.Proofs.YtjbknbgdfhihcaaGreat.fnExactJudgeLocks
open Go.ChangeShapes Go.WideShapes Go.ChangeAt Go.RowKit
open Go.ChangeMaps (open_string shut_string)
set_option linter.unusedVariables false
set_option linter.unusedSimpArgs false
theorem x0 : (Rows.fnExactJudgeLocksRow.wf (OpenSpec.ofChange Rows.fnExactJudgeLocksSpec)) = true := by kernel_rfl
theorem x1 : (laidOutB Tryz.prog) = true := by kernel_rfl
theorem x2 : (mapsRowed Tryz.prog) = true := by kernel_rfl
theorem x3 : (Tryz.f6.params.all (Tryz.prog.readableRec ·)) = true := by kernel_rfl
theorem x4 : (namedTie Tryz.prog Rows.fnExactJudgeLocksRow.named Rows.fnExactJudgeLocksSpec.vars) = true := by kernel_rfl
theorem x5 : ((Rows.fnExactJudgeLocksRow.stops == [])) = true := by kernel_rfl
theorem x6 : ((Tryz.prog.stops == [])) = true := by kernel_rfl
theorem x7 : ((Rows.fnExactJudgeLocksRow.knobs == [])) = true := by kernel_rfl
theorem x8 : ((Tryz.prog.stopKnobs == [])) = true := by kernel_rfl
theorem x9 : ((Rows.fnExactJudgeLocksRow.inPlace == Tryz.prog.inPlace 6)) = true := by kernel_rfl
theorem x10 : ((Rows.fnExactJudgeLocksRow.unfollowed == Tryz.prog.unfollowed 6)) = true := by kernel_rfl
theorem x11 : ((Rows.fnExactJudgeLocksRow.recurses == Tryz.prog.recurses 6)) = true := by kernel_rfl
theorem x12 : ((Rows.fnExactJudgeLocksRow.named == Tryz.prog.varsNamed 6)) = true := by kernel_rfl
theorem x13 : ((Rows.fnExactJudgeLocksRow.maps == (Tryz.f6.params.toList ++ Rows.fnExactJudgeLocksSpec.plain.varTypes Tryz.prog).any (Tryz.prog.mapsRec ·))) = true := by kernel_rfl
theorem x14 : ((Rows.fnExactJudgeLocksRow.ifaces == (Tryz.f6.params.toList ++ Rows.fnExactJudgeLocksSpec.plain.varTypes Tryz.prog).any (Tryz.prog.ifacesRec ·))) = true := by kernel_rfl
theorem x15 : ((Rows.fnExactJudgeLocksRow.mapsOut == Tryz.prog.mapsAmong Tryz.f6.resultTypes.toList)) = true := by kernel_rfl
theorem x16 : ((Rows.fnExactJudgeLocksRow.loops == (Tryz.f6.params.toList ++ Rows.fnExactJudgeLocksSpec.plain.varTypes Tryz.prog).any (Tryz.prog.loopsFrom ·))) = true := by kernel_rfl
theorem x17 : ((Rows.fnExactJudgeLocksRow.wideKeys == (Tryz.f6.params.toList ++ Rows.fnExactJudgeLocksSpec.plain.varTypes Tryz.prog ++ Tryz.f6.resultTypes.toList).any (Tryz.prog.wideKeysFrom ·))) = true := by kernel_rfl
theorem x18 : (Rows.fnExactJudgeLocksSpec.vars.all (Tryz.prog.varReadable ·)) = true := by kernel_rfl
theorem x19 : (Tryz.f6.resultTypes.all (fun t => Tryz.prog.readableRec t && decide (t < Tryz.prog.types.size))) = true := by kernel_rfl
theorem x20 : ((Rows.fnExactJudgeLocksRow.ifacesOut == Tryz.f6.resultTypes.toList.any (Tryz.prog.ifacesRec ·))) = true := by kernel_rfl
theorem x21 : ((Rows.fnExactJudgeLocksRow.loopsOut == Tryz.f6.resultTypes.toList.any (Tryz.prog.loopsFrom ·))) = true := by kernel_rfl
theorem x22 : ((Rows.fnExactJudgeLocksRow.plainKeys == Tryz.prog.plainKeys)) = true := by kernel_rfl
theorem x23 : (Rows.fnExactJudgeLocksRow.shortTexts.isNone) = true := by kernel_rfl
theorem x24 : (Tryz.prog.stopsHeard) = true := by kernel_rfl
theorem x25 : (Tryz.prog.mayEnter) = true := by kernel_rfl
theorem x26 : ((Rows.fnExactJudgeLocksRow.lifted == Tryz.prog.liftsFinal)) = true := by kernel_rfl
theorem x27 : ((Tryz.prog.make == some Rows.fnExactJudgeLocksRow.make)) = true := by kernel_rfl
theorem x29 : ((Rows.fnExactJudgeLocksRow.pinned == Rows.fnExactJudgeLocksRow.pinnedBy)) = true := by kernel_rfl
theorem x30 : ((Rows.fnExactJudgeLocksRow.veiled == (Tryz.f6.params.toList ++ Rows.fnExactJudgeLocksSpec.plain.varTypes Tryz.prog ++ Tryz.f6.resultTypes.toList).any (Tryz.prog.veiledRec ·))) = true := by kernel_rfl
theorem x31 : (Rows.fnExactJudgeLocksRow.veiledFits Tryz.prog Tryz.f6.params.toList (Tryz.f6.params.toList ++ Rows.fnExactJudgeLocksSpec.plain.varTypes Tryz.prog ++ Tryz.f6.resultTypes.toList)) = true := by kernel_rfl
end Go.Proofs.YtjbknbgdfhihcaaGreat.fnExactJudgeLocks
