/- The law FnTrimmedLive returns true for all arguments, and its arguments read as before. No condition. -/
import Derived.Test.YtfecojefbnnknaaRows
import Derived.WalkKit
import Derived.ProofKit
import Derived.OpenShut
import Derived.ShutString
import Derived.ChangeOld
import Derived.Below
import Derived.SizedLaws
namespace Go.Proofs.Ytfecojefbnnknaa.fnTrimmedLive
open Go.ChangeShapes Go.WideShapes Go.ChangeAt Go.RowKit
open Go.ChangeMaps (open_string shut_string)
set_option linter.unusedVariables false
set_option linter.unusedSimpArgs false
theorem x0 : (Rows.fnTrimmedLiveRow.wf (OpenSpec.ofChange Rows.fnTrimmedLiveSpec)) = true := by kernel_rfl
theorem x1 : (laidOutB Try.prog) = true := by kernel_rfl
theorem x2 : (mapsRowed Try.prog) = true := by kernel_rfl
theorem x3 : (Try.f3.params.all (Try.prog.readableRec ·)) = true := by kernel_rfl
theorem x4 : (namedTie Try.prog Rows.fnTrimmedLiveRow.named Rows.fnTrimmedLiveSpec.vars) = true := by kernel_rfl
theorem x5 : ((Rows.fnTrimmedLiveRow.stops == [])) = true := by kernel_rfl
theorem x6 : ((Try.prog.stops == [])) = true := by kernel_rfl
theorem x7 : ((Rows.fnTrimmedLiveRow.knobs == [])) = true := by kernel_rfl
theorem x8 : ((Try.prog.stopKnobs == [])) = true := by kernel_rfl
theorem x9 : ((Rows.fnTrimmedLiveRow.inPlace == Try.prog.inPlace 3)) = true := by kernel_rfl
theorem x10 : ((Rows.fnTrimmedLiveRow.unfollowed == Try.prog.unfollowed 3)) = true := by kernel_rfl
theorem x11 : ((Rows.fnTrimmedLiveRow.recurses == Try.prog.recurses 3)) = true := by kernel_rfl
theorem x12 : ((Rows.fnTrimmedLiveRow.named == Try.prog.varsNamed 3)) = true := by kernel_rfl
theorem x13 : ((Rows.fnTrimmedLiveRow.maps == (Try.f3.params.toList ++ Rows.fnTrimmedLiveSpec.plain.varTypes Try.prog).any (Try.prog.mapsRec ·))) = true := by kernel_rfl
theorem x14 : ((Rows.fnTrimmedLiveRow.ifaces == (Try.f3.params.toList ++ Rows.fnTrimmedLiveSpec.plain.varTypes Try.prog).any (Try.prog.ifacesRec ·))) = true := by kernel_rfl
theorem x15 : ((Rows.fnTrimmedLiveRow.mapsOut == Try.prog.mapsAmong Try.f3.resultTypes.toList)) = true := by kernel_rfl
theorem x16 : ((Rows.fnTrimmedLiveRow.loops == (Try.f3.params.toList ++ Rows.fnTrimmedLiveSpec.plain.varTypes Try.prog).any (Try.prog.loopsFrom ·))) = true := by kernel_rfl
theorem x17 : ((Rows.fnTrimmedLiveRow.wideKeys == (Try.f3.params.toList ++ Rows.fnTrimmedLiveSpec.plain.varTypes Try.prog ++ Try.f3.resultTypes.toList).any (Try.prog.wideKeysFrom ·))) = true := by kernel_rfl
theorem x18 : (Rows.fnTrimmedLiveSpec.vars.all (Try.prog.varReadable ·)) = true := by kernel_rfl
theorem x19 : (Try.f3.resultTypes.all (fun t => Try.prog.readableRec t && decide (t < Try.prog.types.size))) = true := by kernel_rfl
theorem x20 : ((Rows.fnTrimmedLiveRow.ifacesOut == Try.f3.resultTypes.toList.any (Try.prog.ifacesRec ·))) = true := by kernel_rfl
theorem x21 : ((Rows.fnTrimmedLiveRow.loopsOut == Try.f3.resultTypes.toList.any (Try.prog.loopsFrom ·))) = true := by kernel_rfl
theorem x22 : ((Rows.fnTrimmedLiveRow.plainKeys == Try.prog.plainKeys)) = true := by kernel_rfl
theorem x23 : (Rows.fnTrimmedLiveRow.shortTexts.isNone) = true := by kernel_rfl
theorem x24 : (Try.prog.stopsHeard) = true := by kernel_rfl
theorem x25 : (Try.prog.mayEnter) = true := by kernel_rfl
theorem x26 : ((Rows.fnTrimmedLiveRow.lifted == Try.prog.liftsFinal)) = true := by kernel_rfl
theorem x27 : ((Try.prog.make == some Rows.fnTrimmedLiveRow.make)) = true := by kernel_rfl
theorem x29 : ((Rows.fnTrimmedLiveRow.pinned == Rows.fnTrimmedLiveRow.pinnedBy)) = true := by kernel_rfl
theorem x30 : ((Rows.fnTrimmedLiveRow.veiled == (Try.f3.params.toList ++ Rows.fnTrimmedLiveSpec.plain.varTypes Try.prog ++ Try.f3.resultTypes.toList).any (Try.prog.veiledRec ·))) = true := by kernel_rfl
theorem x31 : (Rows.fnTrimmedLiveRow.veiledFits Try.prog Try.f3.params.toList (Try.f3.params.toList ++ Rows.fnTrimmedLiveSpec.plain.varTypes Try.prog ++ Try.f3.resultTypes.toList)) = true := by kernel_rfl
end Go.Proofs.Ytfecojefbnnknaa.fnTrimmedLive
