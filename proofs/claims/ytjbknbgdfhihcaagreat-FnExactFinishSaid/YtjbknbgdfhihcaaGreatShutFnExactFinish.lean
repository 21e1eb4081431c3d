/- The law FnExactFinish returns true for all arguments, and its arguments read as before. No condition. -/
import Derived.Test.YtjbknbgdfhihcaaGreatRows
import Derived.WalkKit
import Derived.ProofKit
import Derived.OpenShut
import Derived.ShutString
import Derived.ChangeOld
import Derived.Below
import Derived.SizedLaws
namespace Go.Proofs.YtjbknbgdfhihcaaGreat.fnExactFinish
open Go.ChangeShapes Go.WideShapes Go.ChangeAt Go.RowKit
open Go.ChangeMaps (open_string shut_string)
set_option linter.unusedVariables false
set_option linter.unusedSimpArgs false
theorem x0 : (Rows.fnExactFinishRow.wf (OpenSpec.ofChange Rows.fnExactFinishSpec)) = true := by kernel_rfl
theorem x1 : (laidOutB Tryz.prog) = true := by kernel_rfl
theorem x2 : (mapsRowed Tryz.prog) = true := by kernel_rfl
theorem x3 : (Tryz.f8.params.all (Tryz.prog.readableRec ·)) = true := by kernel_rfl
theorem x4 : (namedTie Tryz.prog Rows.fnExactFinishRow.named Rows.fnExactFinishSpec.vars) = true := by kernel_rfl
theorem x5 : ((Rows.fnExactFinishRow.stops == [])) = true := by kernel_rfl
theorem x6 : ((Tryz.prog.stops == [])) = true := by kernel_rfl
theorem x7 : ((Rows.fnExactFinishRow.knobs == [])) = true := by kernel_rfl
theorem x8 : ((Tryz.prog.stopKnobs == [])) = true := by kernel_rfl
theorem x9 : ((Rows.fnExactFinishRow.inPlace == Tryz.prog.inPlace 8)) = true := by kernel_rfl
theorem x10 : ((Rows.fnExactFinishRow.unfollowed == Tryz.prog.unfollowed 8)) = true := by kernel_rfl
theorem x11 : ((Rows.fnExactFinishRow.recurses == Tryz.prog.recurses 8)) = true := by kernel_rfl
theorem x12 : ((Rows.fnExactFinishRow.named == Tryz.prog.varsNamed 8)) = true := by kernel_rfl
theorem x13 : ((Rows.fnExactFinishRow.maps == (Tryz.f8.params.toList ++ Rows.fnExactFinishSpec.plain.varTypes Tryz.prog).any (Tryz.prog.mapsRec ·))) = true := by kernel_rfl
theorem x14 : ((Rows.fnExactFinishRow.ifaces == (Tryz.f8.params.toList ++ Rows.fnExactFinishSpec.plain.varTypes Tryz.prog).any (Tryz.prog.ifacesRec ·))) = true := by kernel_rfl
theorem x15 : ((Rows.fnExactFinishRow.mapsOut == Tryz.prog.mapsAmong Tryz.f8.resultTypes.toList)) = true := by kernel_rfl
theorem x16 : ((Rows.fnExactFinishRow.loops == (Tryz.f8.params.toList ++ Rows.fnExactFinishSpec.plain.varTypes Tryz.prog).any (Tryz.prog.loopsFrom ·))) = true := by kernel_rfl
theorem x17 : ((Rows.fnExactFinishRow.wideKeys == (Tryz.f8.params.toList ++ Rows.fnExactFinishSpec.plain.varTypes Tryz.prog ++ Tryz.f8.resultTypes.toList).any (Tryz.prog.wideKeysFrom ·))) = true := by kernel_rfl
theorem x18 : (Rows.fnExactFinishSpec.vars.all (Tryz.prog.varReadable ·)) = true := by kernel_rfl
theorem x19 : (Tryz.f8.resultTypes.all (fun t => Tryz.prog.readableRec t && decide (t < Tryz.prog.types.size))) = true := by kernel_rfl
theorem x20 : ((Rows.fnExactFinishRow.ifacesOut == Tryz.f8.resultTypes.toList.any (Tryz.prog.ifacesRec ·))) = true := by kernel_rfl
theorem x21 : ((Rows.fnExactFinishRow.loopsOut == Tryz.f8.resultTypes.toList.any (Tryz.prog.loopsFrom ·))) = true := by kernel_rfl
theorem x22 : ((Rows.fnExactFinishRow.plainKeys == Tryz.prog.plainKeys)) = true := by kernel_rfl
theorem x23 : (Rows.fnExactFinishRow.shortTexts.isNone) = true := by kernel_rfl
theorem x24 : (Tryz.prog.stopsHeard) = true := by kernel_rfl
theorem x25 : (Tryz.prog.mayEnter) = true := by kernel_rfl
theorem x26 : ((Rows.fnExactFinishRow.lifted == Tryz.prog.liftsFinal)) = true := by kernel_rfl
theorem x27 : ((Tryz.prog.make == some Rows.fnExactFinishRow.make)) = true := by kernel_rfl
theorem x29 : ((Rows.fnExactFinishRow.pinned == Rows.fnExactFinishRow.pinnedBy)) = true := by kernel_rfl
theorem x30 : ((Rows.fnExactFinishRow.veiled == (Tryz.f8.params.toList ++ Rows.fnExactFinishSpec.plain.varTypes Tryz.prog ++ Tryz.f8.resultTypes.toList).any (Tryz.prog.veiledRec ·))) = true := by kernel_rfl
theorem x31 : (Rows.fnExactFinishRow.veiledFits Tryz.prog Tryz.f8.params.toList (Tryz.f8.params.toList ++ Rows.fnExactFinishSpec.plain.varTypes Tryz.prog ++ Tryz.f8.resultTypes.toList)) = true := by kernel_rfl
end Go.Proofs.YtjbknbgdfhihcaaGreat.fnExactFinish
