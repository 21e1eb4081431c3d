/- The law FnBothEnds returns true for all arguments, and its arguments read as before. No condition. -/
import Derived.Test.YtebbppogicgpkaaGreatRows
import Derived.WalkKit
import Derived.ProofKit
import Derived.OpenShut
import Derived.ShutString
import Derived.ChangeOld
import Derived.Below
import Derived.SizedLaws
namespace Go.Proofs.YtebbppogicgpkaaGreat.fnBothEnds
open Go.ChangeShapes Go.WideShapes Go.ChangeAt Go.RowKit
open Go.ChangeMaps (open_string shut_string)
set_option linter.unusedVariables false
set_option linter.unusedSimpArgs false
theorem x0 : (Rows.fnBothEndsRow.wf (OpenSpec.ofChange Rows.fnBothEndsSpec)) = true := by kernel_rfl
theorem x1 : (laidOutB Tryz.prog) = true := by kernel_rfl
theorem x2 : (mapsRowed Tryz.prog) = true := by kernel_rfl
theorem x3 : (Tryz.f4.params.all (Tryz.prog.readableRec ·)) = true := by kernel_rfl
theorem x4 : (namedTie Tryz.prog Rows.fnBothEndsRow.named Rows.fnBothEndsSpec.vars) = true := by kernel_rfl
theorem x5 : ((Rows.fnBothEndsRow.stops == [])) = true := by kernel_rfl
theorem x6 : ((Tryz.prog.stops == [])) = true := by kernel_rfl
theorem x7 : ((Rows.fnBothEndsRow.knobs == [])) = true := by kernel_rfl
theorem x8 : ((Tryz.prog.stopKnobs == [])) = true := by kernel_rfl
theorem x9 : ((Rows.fnBothEndsRow.inPlace == Tryz.prog.inPlace 4)) = true := by kernel_rfl
theorem x10 : ((Rows.fnBothEndsRow.unfollowed == Tryz.prog.unfollowed 4)) = true := by kernel_rfl
theorem x11 : ((Rows.fnBothEndsRow.recurses == Tryz.prog.recurses 4)) = true := by kernel_rfl
theorem x12 : ((Rows.fnBothEndsRow.named == Tryz.prog.varsNamed 4)) = true := by kernel_rfl
theorem x13 : ((Rows.fnBothEndsRow.maps == (Tryz.f4.params.toList ++ Rows.fnBothEndsSpec.plain.varTypes Tryz.prog).any (Tryz.prog.mapsRec ·))) = true := by kernel_rfl
theorem x14 : ((Rows.fnBothEndsRow.ifaces == (Tryz.f4.params.toList ++ Rows.fnBothEndsSpec.plain.varTypes Tryz.prog).any (Tryz.prog.ifacesRec ·))) = true := by kernel_rfl
theorem x15 : ((Rows.fnBothEndsRow.mapsOut == Tryz.prog.mapsAmong Tryz.f4.resultTypes.toList)) = true := by kernel_rfl
theorem x16 : ((Rows.fnBothEndsRow.loops == (Tryz.f4.params.toList ++ Rows.fnBothEndsSpec.plain.varTypes Tryz.prog).any (Tryz.prog.loopsFrom ·))) = true := by kernel_rfl
theorem x17 : ((Rows.fnBothEndsRow.wideKeys == (Tryz.f4.params.toList ++ Rows.fnBothEndsSpec.plain.varTypes Tryz.prog ++ Tryz.f4.resultTypes.toList).any (Tryz.prog.wideKeysFrom ·))) = true := by kernel_rfl
theorem x18 : (Rows.fnBothEndsSpec.vars.all (Tryz.prog.varReadable ·)) = true := by kernel_rfl
theorem x19 : (Tryz.f4.resultTypes.all (fun t => Tryz.prog.readableRec t && decide (t < Tryz.prog.types.size))) = true := by kernel_rfl
theorem x20 : ((Rows.fnBothEndsRow.ifacesOut == Tryz.f4.resultTypes.toList.any (Tryz.prog.ifacesRec ·))) = true := by kernel_rfl
theorem x21 : ((Rows.fnBothEndsRow.loopsOut == Tryz.f4.resultTypes.toList.any (Tryz.prog.loopsFrom ·))) = true := by kernel_rfl
theorem x22 : ((Rows.fnBothEndsRow.plainKeys == Tryz.prog.plainKeys)) = true := by kernel_rfl
theorem x23 : (Rows.fnBothEndsRow.shortTexts.isNone) = true := by kernel_rfl
theorem x24 : (Tryz.prog.stopsHeard) = true := by kernel_rfl
theorem x25 : (Tryz.prog.mayEnter) = true := by kernel_rfl
theorem x26 : ((Rows.fnBothEndsRow.lifted == Tryz.prog.liftsFinal)) = true := by kernel_rfl
theorem x27 : ((Tryz.prog.make == some Rows.fnBothEndsRow.make)) = true := by kernel_rfl
theorem x29 : ((Rows.fnBothEndsRow.pinned == Rows.fnBothEndsRow.pinnedBy)) = true := by kernel_rfl
theorem x30 : ((Rows.fnBothEndsRow.veiled == (Tryz.f4.params.toList ++ Rows.fnBothEndsSpec.plain.varTypes Tryz.prog ++ Tryz.f4.resultTypes.toList).any (Tryz.prog.veiledRec ·))) = true := by kernel_rfl
theorem x31 : (Rows.fnBothEndsRow.veiledFits Tryz.prog Tryz.f4.params.toList (Tryz.f4.params.toList ++ Rows.fnBothEndsSpec.plain.varTypes Tryz.prog ++ Tryz.f4.resultTypes.toList)) = true := by kernel_rfl
end Go.Proofs.YtebbppogicgpkaaGreat.fnBothEnds
