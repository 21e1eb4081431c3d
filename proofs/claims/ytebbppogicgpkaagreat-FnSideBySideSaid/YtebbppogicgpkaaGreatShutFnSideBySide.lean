/- The law FnSideBySide returns true for all arguments, and its arguments read as before. No condition. -/
import Derived.Test.YtebbppogicgpkaaGreatRows
import Derived.WalkKit
import Derived.ProofKit
import Derived.OpenShut
import Derived.ShutString
import Derived.ChangeOld
import Derived.Below
import Derived.SizedLaws
namespace Go.Proofs.YtebbppogicgpkaaGreat.fnSideBySide
open Go.ChangeShapes Go.WideShapes Go.ChangeAt Go.RowKit
open Go.ChangeMaps (open_string shut_string)
set_option linter.unusedVariables false
set_option linter.unusedSimpArgs false
theorem x0 : (Rows.fnSideBySideRow.wf (OpenSpec.ofChange Rows.fnSideBySideSpec)) = true := by kernel_rfl
theorem x1 : (laidOutB Tryz.prog) = true := by kernel_rfl
theorem x2 : (mapsRowed Tryz.prog) = true := by kernel_rfl
theorem x3 : (Tryz.f11.params.all (Tryz.prog.readableRec ·)) = true := by kernel_rfl
theorem x4 : (namedTie Tryz.prog Rows.fnSideBySideRow.named Rows.fnSideBySideSpec.vars) = true := by kernel_rfl
theorem x5 : ((Rows.fnSideBySideRow.stops == [])) = true := by kernel_rfl
theorem x6 : ((Tryz.prog.stops == [])) = true := by kernel_rfl
theorem x7 : ((Rows.fnSideBySideRow.knobs == [])) = true := by kernel_rfl
theorem x8 : ((Tryz.prog.stopKnobs == [])) = true := by kernel_rfl
theorem x9 : ((Rows.fnSideBySideRow.inPlace == Tryz.prog.inPlace 11)) = true := by kernel_rfl
theorem x10 : ((Rows.fnSideBySideRow.unfollowed == Tryz.prog.unfollowed 11)) = true := by kernel_rfl
theorem x11 : ((Rows.fnSideBySideRow.recurses == Tryz.prog.recurses 11)) = true := by kernel_rfl
theorem x12 : ((Rows.fnSideBySideRow.named == Tryz.prog.varsNamed 11)) = true := by kernel_rfl
theorem x13 : ((Rows.fnSideBySideRow.maps == (Tryz.f11.params.toList ++ Rows.fnSideBySideSpec.plain.varTypes Tryz.prog).any (Tryz.prog.mapsRec ·))) = true := by kernel_rfl
theorem x14 : ((Rows.fnSideBySideRow.ifaces == (Tryz.f11.params.toList ++ Rows.fnSideBySideSpec.plain.varTypes Tryz.prog).any (Tryz.prog.ifacesRec ·))) = true := by kernel_rfl
theorem x15 : ((Rows.fnSideBySideRow.mapsOut == Tryz.prog.mapsAmong Tryz.f11.resultTypes.toList)) = true := by kernel_rfl
theorem x16 : ((Rows.fnSideBySideRow.loops == (Tryz.f11.params.toList ++ Rows.fnSideBySideSpec.plain.varTypes Tryz.prog).any (Tryz.prog.loopsFrom ·))) = true := by kernel_rfl
theorem x17 : ((Rows.fnSideBySideRow.wideKeys == (Tryz.f11.params.toList ++ Rows.fnSideBySideSpec.plain.varTypes Tryz.prog ++ Tryz.f11.resultTypes.toList).any (Tryz.prog.wideKeysFrom ·))) = true := by kernel_rfl
theorem x18 : (Rows.fnSideBySideSpec.vars.all (Tryz.prog.varReadable ·)) = true := by kernel_rfl
theorem x19 : (Tryz.f11.resultTypes.all (fun t => Tryz.prog.readableRec t && decide (t < Tryz.prog.types.size))) = true := by kernel_rfl
theorem x20 : ((Rows.fnSideBySideRow.ifacesOut == Tryz.f11.resultTypes.toList.any (Tryz.prog.ifacesRec ·))) = true := by kernel_rfl
theorem x21 : ((Rows.fnSideBySideRow.loopsOut == Tryz.f11.resultTypes.toList.any (Tryz.prog.loopsFrom ·))) = true := by kernel_rfl
theorem x22 : ((Rows.fnSideBySideRow.plainKeys == Tryz.prog.plainKeys)) = true := by kernel_rfl
theorem x23 : (Rows.fnSideBySideRow.shortTexts.isNone) = true := by kernel_rfl
theorem x24 : (Tryz.prog.stopsHeard) = true := by kernel_rfl
theorem x25 : (Tryz.prog.mayEnter) = true := by kernel_rfl
theorem x26 : ((Rows.fnSideBySideRow.lifted == Tryz.prog.liftsFinal)) = true := by kernel_rfl
theorem x27 : ((Tryz.prog.make == some Rows.fnSideBySideRow.make)) = true := by kernel_rfl
theorem x29 : ((Rows.fnSideBySideRow.pinned == Rows.fnSideBySideRow.pinnedBy)) = true := by kernel_rfl
theorem x30 : ((Rows.fnSideBySideRow.veiled == (Tryz.f11.params.toList ++ Rows.fnSideBySideSpec.plain.varTypes Tryz.prog ++ Tryz.f11.resultTypes.toList).any (Tryz.prog.veiledRec ·))) = true := by kernel_rfl
theorem x31 : (Rows.fnSideBySideRow.veiledFits Tryz.prog Tryz.f11.params.toList (Tryz.f11.params.toList ++ Rows.fnSideBySideSpec.plain.varTypes Tryz.prog ++ Tryz.f11.resultTypes.toList)) = true := by kernel_rfl
end Go.Proofs.YtebbppogicgpkaaGreat.fnSideBySide
