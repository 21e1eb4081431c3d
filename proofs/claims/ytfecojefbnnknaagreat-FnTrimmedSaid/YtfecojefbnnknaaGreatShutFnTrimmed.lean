/- The law FnTrimmed returns true for all arguments, and its arguments read as before. No condition. -/
import Derived.Test.YtfecojefbnnknaaGreatRows
import Derived.WalkKit
import Derived.ProofKit
import Derived.OpenShut
import Derived.ShutString
import Derived.ChangeOld
import Derived.Below
import Derived.SizedLaws
namespace Go.Proofs.YtfecojefbnnknaaGreat.fnTrimmed
open Go.ChangeShapes Go.WideShapes Go.ChangeAt Go.RowKit
open Go.ChangeMaps (open_string shut_string)
set_option linter.unusedVariables false
set_option linter.unusedSimpArgs false
theorem x0 : (Rows.fnTrimmedRow.wf (OpenSpec.ofChange Rows.fnTrimmedSpec)) = true := by kernel_rfl
theorem x1 : (laidOutB Tryz.prog) = true := by kernel_rfl
theorem x2 : (mapsRowed Tryz.prog) = true := by kernel_rfl
theorem x3 : (Tryz.f3.params.all (Tryz.prog.readableRec ·)) = true := by kernel_rfl
theorem x4 : (namedTie Tryz.prog Rows.fnTrimmedRow.named Rows.fnTrimmedSpec.vars) = true := by kernel_rfl
theorem x5 : ((Rows.fnTrimmedRow.stops == [])) = true := by kernel_rfl
theorem x6 : ((Tryz.prog.stops == [])) = true := by kernel_rfl
theorem x7 : ((Rows.fnTrimmedRow.knobs == [])) = true := by kernel_rfl
theorem x8 : ((Tryz.prog.stopKnobs == [])) = true := by kernel_rfl
theorem x9 : ((Rows.fnTrimmedRow.inPlace == Tryz.prog.inPlace 3)) = true := by kernel_rfl
theorem x10 : ((Rows.fnTrimmedRow.unfollowed == Tryz.prog.unfollowed 3)) = true := by kernel_rfl
theorem x11 : ((Rows.fnTrimmedRow.recurses == Tryz.prog.recurses 3)) = true := by kernel_rfl
theorem x12 : ((Rows.fnTrimmedRow.named == Tryz.prog.varsNamed 3)) = true := by kernel_rfl
theorem x13 : ((Rows.fnTrimmedRow.maps == (Tryz.f3.params.toList ++ Rows.fnTrimmedSpec.plain.varTypes Tryz.prog).any (Tryz.prog.mapsRec ·))) = true := by kernel_rfl
theorem x14 : ((Rows.fnTrimmedRow.ifaces == (Tryz.f3.params.toList ++ Rows.fnTrimmedSpec.plain.varTypes Tryz.prog).any (Tryz.prog.ifacesRec ·))) = true := by kernel_rfl
theorem x15 : ((Rows.fnTrimmedRow.mapsOut == Tryz.prog.mapsAmong Tryz.f3.resultTypes.toList)) = true := by kernel_rfl
theorem x16 : ((Rows.fnTrimmedRow.loops == (Tryz.f3.params.toList ++ Rows.fnTrimmedSpec.plain.varTypes Tryz.prog).any (Tryz.prog.loopsFrom ·))) = true := by kernel_rfl
theorem x17 : ((Rows.fnTrimmedRow.wideKeys == (Tryz.f3.params.toList ++ Rows.fnTrimmedSpec.plain.varTypes Tryz.prog ++ Tryz.f3.resultTypes.toList).any (Tryz.prog.wideKeysFrom ·))) = true := by kernel_rfl
theorem x18 : (Rows.fnTrimmedSpec.vars.all (Tryz.prog.varReadable ·)) = true := by kernel_rfl
theorem x19 : (Tryz.f3.resultTypes.all (fun t => Tryz.prog.readableRec t && decide (t < Tryz.prog.types.size))) = true := by kernel_rfl
theorem x20 : ((Rows.fnTrimmedRow.ifacesOut == Tryz.f3.resultTypes.toList.any (Tryz.prog.ifacesRec ·))) = true := by kernel_rfl
theorem x21 : ((Rows.fnTrimmedRow.loopsOut == Tryz.f3.resultTypes.toList.any (Tryz.prog.loopsFrom ·))) = true := by kernel_rfl
theorem x22 : ((Rows.fnTrimmedRow.plainKeys == Tryz.prog.plainKeys)) = true := by kernel_rfl
theorem x23 : (Rows.fnTrimmedRow.shortTexts.isNone) = true := by kernel_rfl
theorem x24 : (Tryz.prog.stopsHeard) = true := by kernel_rfl
theorem x25 : (Tryz.prog.mayEnter) = true := by kernel_rfl
theorem x26 : ((Rows.fnTrimmedRow.lifted == Tryz.prog.liftsFinal)) = true := by kernel_rfl
theorem x27 : ((Tryz.prog.make == some Rows.fnTrimmedRow.make)) = true := by kernel_rfl
theorem x29 : ((Rows.fnTrimmedRow.pinned == Rows.fnTrimmedRow.pinnedBy)) = true := by kernel_rfl
theorem x30 : ((Rows.fnTrimmedRow.veiled == (Tryz.f3.params.toList ++ Rows.fnTrimmedSpec.plain.varTypes Tryz.prog ++ Tryz.f3.resultTypes.toList).any (Tryz.prog.veiledRec ·))) = true := by kernel_rfl
theorem x31 : (Rows.fnTrimmedRow.veiledFits Tryz.prog Tryz.f3.params.toList (Tryz.f3.params.toList ++ Rows.fnTrimmedSpec.plain.varTypes Tryz.prog ++ Tryz.f3.resultTypes.toList)) = true := by kernel_rfl
end Go.Proofs.YtfecojefbnnknaaGreat.fnTrimmed
