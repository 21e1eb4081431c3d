/- The law FnExactWitness returns true for all arguments, and its arguments read as before. No condition. -/
import Derived.Test.YtjbknbgdfhihcaaGreatRows
import Derived.WalkKit
import Derived.ProofKit
import Derived.OpenShut
import Derived.ShutString
import Derived.ChangeOld
import Derived.Below
import Derived.SizedLaws
namespace Go.Proofs.YtjbknbgdfhihcaaGreat.fnExactWitness
open Go.ChangeShapes Go.WideShapes Go.ChangeAt Go.RowKit
open Go.ChangeMaps (open_string shut_string)
set_option linter.unusedVariables false
set_option linter.unusedSimpArgs false
theorem x0 : (Rows.fnExactWitnessRow.wf (OpenSpec.ofChange Rows.fnExactWitnessSpec)) = true := by kernel_rfl
theorem x1 : (laidOutB Tryz.prog) = true := by kernel_rfl
theorem x2 : (mapsRowed Tryz.prog) = true := by kernel_rfl
theorem x3 : (Tryz.f9.params.all (Tryz.prog.readableRec ·)) = true := by kernel_rfl
theorem x4 : (namedTie Tryz.prog Rows.fnExactWitnessRow.named Rows.fnExactWitnessSpec.vars) = true := by kernel_rfl
theorem x5 : ((Rows.fnExactWitnessRow.stops == [])) = true := by kernel_rfl
theorem x6 : ((Tryz.prog.stops == [])) = true := by kernel_rfl
theorem x7 : ((Rows.fnExactWitnessRow.knobs == [])) = true := by kernel_rfl
theorem x8 : ((Tryz.prog.stopKnobs == [])) = true := by kernel_rfl
theorem x9 : ((Rows.fnExactWitnessRow.inPlace == Tryz.prog.inPlace 9)) = true := by kernel_rfl
theorem x10 : ((Rows.fnExactWitnessRow.unfollowed == Tryz.prog.unfollowed 9)) = true := by kernel_rfl
theorem x11 : ((Rows.fnExactWitnessRow.recurses == Tryz.prog.recurses 9)) = true := by kernel_rfl
theorem x12 : ((Rows.fnExactWitnessRow.named == Tryz.prog.varsNamed 9)) = true := by kernel_rfl
theorem x13 : ((Rows.fnExactWitnessRow.maps == (Tryz.f9.params.toList ++ Rows.fnExactWitnessSpec.plain.varTypes Tryz.prog).any (Tryz.prog.mapsRec ·))) = true := by kernel_rfl
theorem x14 : ((Rows.fnExactWitnessRow.ifaces == (Tryz.f9.params.toList ++ Rows.fnExactWitnessSpec.plain.varTypes Tryz.prog).any (Tryz.prog.ifacesRec ·))) = true := by kernel_rfl
theorem x15 : ((Rows.fnExactWitnessRow.mapsOut == Tryz.prog.mapsAmong Tryz.f9.resultTypes.toList)) = true := by kernel_rfl
theorem x16 : ((Rows.fnExactWitnessRow.loops == (Tryz.f9.params.toList ++ Rows.fnExactWitnessSpec.plain.varTypes Tryz.prog).any (Tryz.prog.loopsFrom ·))) = true := by kernel_rfl
theorem x17 : ((Rows.fnExactWitnessRow.wideKeys == (Tryz.f9.params.toList ++ Rows.fnExactWitnessSpec.plain.varTypes Tryz.prog ++ Tryz.f9.resultTypes.toList).any (Tryz.prog.wideKeysFrom ·))) = true := by kernel_rfl
theorem x18 : (Rows.fnExactWitnessSpec.vars.all (Tryz.prog.varReadable ·)) = true := by kernel_rfl
theorem x19 : (Tryz.f9.resultTypes.all (fun t => Tryz.prog.readableRec t && decide (t < Tryz.prog.types.size))) = true := by kernel_rfl
theorem x20 : ((Rows.fnExactWitnessRow.ifacesOut == Tryz.f9.resultTypes.toList.any (Tryz.prog.ifacesRec ·))) = true := by kernel_rfl
theorem x21 : ((Rows.fnExactWitnessRow.loopsOut == Tryz.f9.resultTypes.toList.any (Tryz.prog.loopsFrom ·))) = true := by kernel_rfl
theorem x22 : ((Rows.fnExactWitnessRow.plainKeys == Tryz.prog.plainKeys)) = true := by kernel_rfl
theorem x23 : (Rows.fnExactWitnessRow.shortTexts.isNone) = true := by kernel_rfl
theorem x24 : (Tryz.prog.stopsHeard) = true := by kernel_rfl
theorem x25 : (Tryz.prog.mayEnter) = true := by kernel_rfl
theorem x26 : ((Rows.fnExactWitnessRow.lifted == Tryz.prog.liftsFinal)) = true := by kernel_rfl
theorem x27 : ((Tryz.prog.make == some Rows.fnExactWitnessRow.make)) = true := by kernel_rfl
theorem x29 : ((Rows.fnExactWitnessRow.pinned == Rows.fnExactWitnessRow.pinnedBy)) = true := by kernel_rfl
theorem x30 : ((Rows.fnExactWitnessRow.veiled == (Tryz.f9.params.toList ++ Rows.fnExactWitnessSpec.plain.varTypes Tryz.prog ++ Tryz.f9.resultTypes.toList).any (Tryz.prog.veiledRec ·))) = true := by kernel_rfl
theorem x31 : (Rows.fnExactWitnessRow.veiledFits Tryz.prog Tryz.f9.params.toList (Tryz.f9.params.toList ++ Rows.fnExactWitnessSpec.plain.varTypes Tryz.prog ++ Tryz.f9.resultTypes.toList)) = true := by kernel_rfl
end Go.Proofs.YtjbknbgdfhihcaaGreat.fnExactWitness
