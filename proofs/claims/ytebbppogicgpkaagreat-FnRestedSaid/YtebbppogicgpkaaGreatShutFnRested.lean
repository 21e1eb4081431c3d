/- The law FnRested returns true for all arguments, and its arguments read as before. No condition. -/
import Derived.Test.YtebbppogicgpkaaGreatRows
import Derived.WalkKit
import Derived.ProofKit
import Derived.OpenShut
import Derived.ShutString
import Derived.ChangeOld
import Derived.Below
import Derived.SizedLaws
namespace Go.Proofs.YtebbppogicgpkaaGreat.fnRested
open Go.ChangeShapes Go.WideShapes Go.ChangeAt Go.RowKit
open Go.ChangeMaps (open_string shut_string)
set_option linter.unusedVariables false
set_option linter.unusedSimpArgs false
theorem x0 : (Rows.fnRestedRow.wf (OpenSpec.ofChange Rows.fnRestedSpec)) = true := by kernel_rfl
theorem x1 : (laidOutB Tryz.prog) = true := by kernel_rfl
theorem x2 : (mapsRowed Tryz.prog) = true := by kernel_rfl
theorem x3 : (Tryz.f8.params.all (Tryz.prog.readableRec ·)) = true := by kernel_rfl
theorem x4 : (namedTie Tryz.prog Rows.fnRestedRow.named Rows.fnRestedSpec.vars) = true := by kernel_rfl
theorem x5 : ((Rows.fnRestedRow.stops == [])) = true := by kernel_rfl
theorem x6 : ((Tryz.prog.stops == [])) = true := by kernel_rfl
theorem x7 : ((Rows.fnRestedRow.knobs == [])) = true := by kernel_rfl
theorem x8 : ((Tryz.prog.stopKnobs == [])) = true := by kernel_rfl
theorem x9 : ((Rows.fnRestedRow.inPlace == Tryz.prog.inPlace 8)) = true := by kernel_rfl
theorem x10 : ((Rows.fnRestedRow.unfollowed == Tryz.prog.unfollowed 8)) = true := by kernel_rfl
theorem x11 : ((Rows.fnRestedRow.recurses == Tryz.prog.recurses 8)) = true := by kernel_rfl
theorem x12 : ((Rows.fnRestedRow.named == Tryz.prog.varsNamed 8)) = true := by kernel_rfl
theorem x13 : ((Rows.fnRestedRow.maps == (Tryz.f8.params.toList ++ Rows.fnRestedSpec.plain.varTypes Tryz.prog).any (Tryz.prog.mapsRec ·))) = true := by kernel_rfl
theorem x14 : ((Rows.fnRestedRow.ifaces == (Tryz.f8.params.toList ++ Rows.fnRestedSpec.plain.varTypes Tryz.prog).any (Tryz.prog.ifacesRec ·))) = true := by kernel_rfl
theorem x15 : ((Rows.fnRestedRow.mapsOut == Tryz.prog.mapsAmong Tryz.f8.resultTypes.toList)) = true := by kernel_rfl
theorem x16 : ((Rows.fnRestedRow.loops == (Tryz.f8.params.toList ++ Rows.fnRestedSpec.plain.varTypes Tryz.prog).any (Tryz.prog.loopsFrom ·))) = true := by kernel_rfl
theorem x17 : ((Rows.fnRestedRow.wideKeys == (Tryz.f8.params.toList ++ Rows.fnRestedSpec.plain.varTypes Tryz.prog ++ Tryz.f8.resultTypes.toList).any (Tryz.prog.wideKeysFrom ·))) = true := by kernel_rfl
theorem x18 : (Rows.fnRestedSpec.vars.all (Tryz.prog.varReadable ·)) = true := by kernel_rfl
theorem x19 : (Tryz.f8.resultTypes.all (fun t => Tryz.prog.readableRec t && decide (t < Tryz.prog.types.size))) = true := by kernel_rfl
theorem x20 : ((Rows.fnRestedRow.ifacesOut == Tryz.f8.resultTypes.toList.any (Tryz.prog.ifacesRec ·))) = true := by kernel_rfl
theorem x21 : ((Rows.fnRestedRow.loopsOut == Tryz.f8.resultTypes.toList.any (Tryz.prog.loopsFrom ·))) = true := by kernel_rfl
theorem x22 : ((Rows.fnRestedRow.plainKeys == Tryz.prog.plainKeys)) = true := by kernel_rfl
theorem x23 : (Rows.fnRestedRow.shortTexts.isNone) = true := by kernel_rfl
theorem x24 : (Tryz.prog.stopsHeard) = true := by kernel_rfl
theorem x25 : (Tryz.prog.mayEnter) = true := by kernel_rfl
theorem x26 : ((Rows.fnRestedRow.lifted == Tryz.prog.liftsFinal)) = true := by kernel_rfl
theorem x27 : ((Tryz.prog.make == some Rows.fnRestedRow.make)) = true := by kernel_rfl
theorem x29 : ((Rows.fnRestedRow.pinned == Rows.fnRestedRow.pinnedBy)) = true := by kernel_rfl
theorem x30 : ((Rows.fnRestedRow.veiled == (Tryz.f8.params.toList ++ Rows.fnRestedSpec.plain.varTypes Tryz.prog ++ Tryz.f8.resultTypes.toList).any (Tryz.prog.veiledRec ·))) = true := by kernel_rfl
theorem x31 : (Rows.fnRestedRow.veiledFits Tryz.prog Tryz.f8.params.toList (Tryz.f8.params.toList ++ Rows.fnRestedSpec.plain.varTypes Tryz.prog ++ Tryz.f8.resultTypes.toList)) = true := by kernel_rfl
end Go.Proofs.YtebbppogicgpkaaGreat.fnRested
