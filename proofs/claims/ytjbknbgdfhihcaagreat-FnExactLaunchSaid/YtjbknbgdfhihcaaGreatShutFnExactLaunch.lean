/- The law FnExactLaunch returns true for all arguments, and its arguments read as before. No condition. -/
import Derived.Test.YtjbknbgdfhihcaaGreatRows
import Derived.WalkKit
import Derived.ProofKit
import Derived.OpenShut
import Derived.ShutString
import Derived.ChangeOld
import Derived.Below
import Derived.SizedLaws
namespace Go.Proofs.YtjbknbgdfhihcaaGreat.fnExactLaunch
open Go.ChangeShapes Go.WideShapes Go.ChangeAt Go.RowKit
open Go.ChangeMaps (open_string shut_string)
set_option linter.unusedVariables false
set_option linter.unusedSimpArgs false
theorem x0 : (Rows.fnExactLaunchRow.wf (OpenSpec.ofChange Rows.fnExactLaunchSpec)) = true := by kernel_rfl
theorem x1 : (laidOutB Tryz.prog) = true := by kernel_rfl
theorem x2 : (mapsRowed Tryz.prog) = true := by kernel_rfl
theorem x3 : (Tryz.f4.params.all (Tryz.prog.readableRec ·)) = true := by kernel_rfl
theorem x4 : (namedTie Tryz.prog Rows.fnExactLaunchRow.named Rows.fnExactLaunchSpec.vars) = true := by kernel_rfl
theorem x5 : ((Rows.fnExactLaunchRow.stops == [])) = true := by kernel_rfl
theorem x6 : ((Tryz.prog.stops == [])) = true := by kernel_rfl
theorem x7 : ((Rows.fnExactLaunchRow.knobs == [])) = true := by kernel_rfl
theorem x8 : ((Tryz.prog.stopKnobs == [])) = true := by kernel_rfl
theorem x9 : ((Rows.fnExactLaunchRow.inPlace == Tryz.prog.inPlace 4)) = true := by kernel_rfl
theorem x10 : ((Rows.fnExactLaunchRow.unfollowed == Tryz.prog.unfollowed 4)) = true := by kernel_rfl
theorem x11 : ((Rows.fnExactLaunchRow.recurses == Tryz.prog.recurses 4)) = true := by kernel_rfl
theorem x12 : ((Rows.fnExactLaunchRow.named == Tryz.prog.varsNamed 4)) = true := by kernel_rfl
theorem x13 : ((Rows.fnExactLaunchRow.maps == (Tryz.f4.params.toList ++ Rows.fnExactLaunchSpec.plain.varTypes Tryz.prog).any (Tryz.prog.mapsRec ·))) = true := by kernel_rfl
theorem x14 : ((Rows.fnExactLaunchRow.ifaces == (Tryz.f4.params.toList ++ Rows.fnExactLaunchSpec.plain.varTypes Tryz.prog).any (Tryz.prog.ifacesRec ·))) = true := by kernel_rfl
theorem x15 : ((Rows.fnExactLaunchRow.mapsOut == Tryz.prog.mapsAmong Tryz.f4.resultTypes.toList)) = true := by kernel_rfl
theorem x16 : ((Rows.fnExactLaunchRow.loops == (Tryz.f4.params.toList ++ Rows.fnExactLaunchSpec.plain.varTypes Tryz.prog).any (Tryz.prog.loopsFrom ·))) = true := by kernel_rfl
theorem x17 : ((Rows.fnExactLaunchRow.wideKeys == (Tryz.f4.params.toList ++ Rows.fnExactLaunchSpec.plain.varTypes Tryz.prog ++ Tryz.f4.resultTypes.toList).any (Tryz.prog.wideKeysFrom ·))) = true := by kernel_rfl
theorem x18 : (Rows.fnExactLaunchSpec.vars.all (Tryz.prog.varReadable ·)) = true := by kernel_rfl
theorem x19 : (Tryz.f4.resultTypes.all (fun t => Tryz.prog.readableRec t && decide (t < Tryz.prog.types.size))) = true := by kernel_rfl
theorem x20 : ((Rows.fnExactLaunchRow.ifacesOut == Tryz.f4.resultTypes.toList.any (Tryz.prog.ifacesRec ·))) = true := by kernel_rfl
theorem x21 : ((Rows.fnExactLaunchRow.loopsOut == Tryz.f4.resultTypes.toList.any (Tryz.prog.loopsFrom ·))) = true := by kernel_rfl
theorem x22 : ((Rows.fnExactLaunchRow.plainKeys == Tryz.prog.plainKeys)) = true := by kernel_rfl
theorem x23 : (Rows.fnExactLaunchRow.shortTexts.isNone) = true := by kernel_rfl
theorem x24 : (Tryz.prog.stopsHeard) = true := by kernel_rfl
theorem x25 : (Tryz.prog.mayEnter) = true := by kernel_rfl
theorem x26 : ((Rows.fnExactLaunchRow.lifted == Tryz.prog.liftsFinal)) = true := by kernel_rfl
theorem x27 : ((Tryz.prog.make == some Rows.fnExactLaunchRow.make)) = true := by kernel_rfl
theorem x29 : ((Rows.fnExactLaunchRow.pinned == Rows.fnExactLaunchRow.pinnedBy)) = true := by kernel_rfl
theorem x30 : ((Rows.fnExactLaunchRow.veiled == (Tryz.f4.params.toList ++ Rows.fnExactLaunchSpec.plain.varTypes Tryz.prog ++ Tryz.f4.resultTypes.toList).any (Tryz.prog.veiledRec ·))) = true := by kernel_rfl
theorem x31 : (Rows.fnExactLaunchRow.veiledFits Tryz.prog Tryz.f4.params.toList (Tryz.f4.params.toList ++ Rows.fnExactLaunchSpec.plain.varTypes Tryz.prog ++ Tryz.f4.resultTypes.toList)) = true := by kernel_rfl
end Go.Proofs.YtjbknbgdfhihcaaGreat.fnExactLaunch
