/- The law FnWitness returns true for all arguments, and its arguments read as before. No condition. -/
import Derived.Test.YtebbppogicgpkaaGreatRows
import Derived.WalkKit
import Derived.ProofKit
import Derived.OpenShut
import Derived.ShutString
import Derived.ChangeOld
import Derived.Below
import Derived.SizedLaws
namespace Go.Proofs.YtebbppogicgpkaaGreat.fnWitness
open Go.ChangeShapes Go.WideShapes Go.ChangeAt Go.RowKit
open Go.ChangeMaps (open_string shut_string)
set_option linter.unusedVariables false
set_option linter.unusedSimpArgs false
theorem x0 : (Rows.fnWitnessRow.wf (OpenSpec.ofChange Rows.fnWitnessSpec)) = true := by kernel_rfl
theorem x1 : (laidOutB Tryz.prog) = true := by kernel_rfl
theorem x2 : (mapsRowed Tryz.prog) = true := by kernel_rfl
theorem x3 : (Tryz.f10.params.all (Tryz.prog.readableRec ·)) = true := by kernel_rfl
theorem x4 : (namedTie Tryz.prog Rows.fnWitnessRow.named Rows.fnWitnessSpec.vars) = true := by kernel_rfl
theorem x5 : ((Rows.fnWitnessRow.stops == [])) = true := by kernel_rfl
theorem x6 : ((Tryz.prog.stops == [])) = true := by kernel_rfl
theorem x7 : ((Rows.fnWitnessRow.knobs == [])) = true := by kernel_rfl
theorem x8 : ((Tryz.prog.stopKnobs == [])) = true := by kernel_rfl
theorem x9 : ((Rows.fnWitnessRow.inPlace == Tryz.prog.inPlace 10)) = true := by kernel_rfl
theorem x10 : ((Rows.fnWitnessRow.unfollowed == Tryz.prog.unfollowed 10)) = true := by kernel_rfl
theorem x11 : ((Rows.fnWitnessRow.recurses == Tryz.prog.recurses 10)) = true := by kernel_rfl
theorem x12 : ((Rows.fnWitnessRow.named == Tryz.prog.varsNamed 10)) = true := by kernel_rfl
theorem x13 : ((Rows.fnWitnessRow.maps == (Tryz.f10.params.toList ++ Rows.fnWitnessSpec.plain.varTypes Tryz.prog).any (Tryz.prog.mapsRec ·))) = true := by kernel_rfl
theorem x14 : ((Rows.fnWitnessRow.ifaces == (Tryz.f10.params.toList ++ Rows.fnWitnessSpec.plain.varTypes Tryz.prog).any (Tryz.prog.ifacesRec ·))) = true := by kernel_rfl
theorem x15 : ((Rows.fnWitnessRow.mapsOut == Tryz.prog.mapsAmong Tryz.f10.resultTypes.toList)) = true := by kernel_rfl
theorem x16 : ((Rows.fnWitnessRow.loops == (Tryz.f10.params.toList ++ Rows.fnWitnessSpec.plain.varTypes Tryz.prog).any (Tryz.prog.loopsFrom ·))) = true := by kernel_rfl
theorem x17 : ((Rows.fnWitnessRow.wideKeys == (Tryz.f10.params.toList ++ Rows.fnWitnessSpec.plain.varTypes Tryz.prog ++ Tryz.f10.resultTypes.toList).any (Tryz.prog.wideKeysFrom ·))) = true := by kernel_rfl
theorem x18 : (Rows.fnWitnessSpec.vars.all (Tryz.prog.varReadable ·)) = true := by kernel_rfl
theorem x19 : (Tryz.f10.resultTypes.all (fun t => Tryz.prog.readableRec t && decide (t < Tryz.prog.types.size))) = true := by kernel_rfl
theorem x20 : ((Rows.fnWitnessRow.ifacesOut == Tryz.f10.resultTypes.toList.any (Tryz.prog.ifacesRec ·))) = true := by kernel_rfl
theorem x21 : ((Rows.fnWitnessRow.loopsOut == Tryz.f10.resultTypes.toList.any (Tryz.prog.loopsFrom ·))) = true := by kernel_rfl
theorem x22 : ((Rows.fnWitnessRow.plainKeys == Tryz.prog.plainKeys)) = true := by kernel_rfl
theorem x23 : (Rows.fnWitnessRow.shortTexts.isNone) = true := by kernel_rfl
theorem x24 : (Tryz.prog.stopsHeard) = true := by kernel_rfl
theorem x25 : (Tryz.prog.mayEnter) = true := by kernel_rfl
theorem x26 : ((Rows.fnWitnessRow.lifted == Tryz.prog.liftsFinal)) = true := by kernel_rfl
theorem x27 : ((Tryz.prog.make == some Rows.fnWitnessRow.make)) = true := by kernel_rfl
theorem x29 : ((Rows.fnWitnessRow.pinned == Rows.fnWitnessRow.pinnedBy)) = true := by kernel_rfl
theorem x30 : ((Rows.fnWitnessRow.veiled == (Tryz.f10.params.toList ++ Rows.fnWitnessSpec.plain.varTypes Tryz.prog ++ Tryz.f10.resultTypes.toList).any (Tryz.prog.veiledRec ·))) = true := by kernel_rfl
theorem x31 : (Rows.fnWitnessRow.veiledFits Tryz.prog Tryz.f10.params.toList (Tryz.f10.params.toList ++ Rows.fnWitnessSpec.plain.varTypes Tryz.prog ++ Tryz.f10.resultTypes.toList)) = true := by kernel_rfl
end Go.Proofs.YtebbppogicgpkaaGreat.fnWitness
