/- The law FnLive returns true for all arguments, and its arguments read as before. No condition. -/
import Derived.Test.YtfecojefbnnknaaRows
import Derived.WalkKit
import Derived.ProofKit
import Derived.OpenShut
import Derived.ShutString
import Derived.ChangeOld
import Derived.Below
import Derived.SizedLaws
namespace Go.Proofs.Ytfecojefbnnknaa.fnLive
open Go.ChangeShapes Go.WideShapes Go.ChangeAt Go.RowKit
open Go.ChangeMaps (open_string shut_string)
set_option linter.unusedVariables false
set_option linter.unusedSimpArgs false
theorem x0 : (Rows.fnLiveRow.wf (OpenSpec.ofChange Rows.fnLiveSpec)) = true := by kernel_rfl
theorem x1 : (laidOutB Try.prog) = true := by kernel_rfl
theorem x2 : (mapsRowed Try.prog) = true := by kernel_rfl
theorem x3 : (Try.f5.params.all (Try.prog.readableRec ·)) = true := by kernel_rfl
theorem x4 : (namedTie Try.prog Rows.fnLiveRow.named Rows.fnLiveSpec.vars) = true := by kernel_rfl
theorem x5 : ((Rows.fnLiveRow.stops == [])) = true := by kernel_rfl
theorem x6 : ((Try.prog.stops == [])) = true := by kernel_rfl
theorem x7 : ((Rows.fnLiveRow.knobs == [])) = true := by kernel_rfl
theorem x8 : ((Try.prog.stopKnobs == [])) = true := by kernel_rfl
theorem x9 : ((Rows.fnLiveRow.inPlace == Try.prog.inPlace 5)) = true := by kernel_rfl
theorem x10 : ((Rows.fnLiveRow.unfollowed == Try.prog.unfollowed 5)) = true := by kernel_rfl
theorem x11 : ((Rows.fnLiveRow.recurses == Try.prog.recurses 5)) = true := by kernel_rfl
theorem x12 : ((Rows.fnLiveRow.named == Try.prog.varsNamed 5)) = true := by kernel_rfl
theorem x13 : ((Rows.fnLiveRow.maps == (Try.f5.params.toList ++ Rows.fnLiveSpec.plain.varTypes Try.prog).any (Try.prog.mapsRec ·))) = true := by kernel_rfl
theorem x14 : ((Rows.fnLiveRow.ifaces == (Try.f5.params.toList ++ Rows.fnLiveSpec.plain.varTypes Try.prog).any (Try.prog.ifacesRec ·))) = true := by kernel_rfl
theorem x15 : ((Rows.fnLiveRow.mapsOut == Try.prog.mapsAmong Try.f5.resultTypes.toList)) = true := by kernel_rfl
theorem x16 : ((Rows.fnLiveRow.loops == (Try.f5.params.toList ++ Rows.fnLiveSpec.plain.varTypes Try.prog).any (Try.prog.loopsFrom ·))) = true := by kernel_rfl
theorem x17 : ((Rows.fnLiveRow.wideKeys == (Try.f5.params.toList ++ Rows.fnLiveSpec.plain.varTypes Try.prog ++ Try.f5.resultTypes.toList).any (Try.prog.wideKeysFrom ·))) = true := by kernel_rfl
theorem x18 : (Rows.fnLiveSpec.vars.all (Try.prog.varReadable ·)) = true := by kernel_rfl
theorem x19 : (Try.f5.resultTypes.all (fun t => Try.prog.readableRec t && decide (t < Try.prog.types.size))) = true := by kernel_rfl
theorem x20 : ((Rows.fnLiveRow.ifacesOut == Try.f5.resultTypes.toList.any (Try.prog.ifacesRec ·))) = true := by kernel_rfl
theorem x21 : ((Rows.fnLiveRow.loopsOut == Try.f5.resultTypes.toList.any (Try.prog.loopsFrom ·))) = true := by kernel_rfl
theorem x22 : ((Rows.fnLiveRow.plainKeys == Try.prog.plainKeys)) = true := by kernel_rfl
theorem x23 : (Rows.fnLiveRow.shortTexts.isNone) = true := by kernel_rfl
theorem x24 : (Try.prog.stopsHeard) = true := by kernel_rfl
theorem x25 : (Try.prog.mayEnter) = true := by kernel_rfl
theorem x26 : ((Rows.fnLiveRow.lifted == Try.prog.liftsFinal)) = true := by kernel_rfl
theorem x27 : ((Try.prog.make == some Rows.fnLiveRow.make)) = true := by kernel_rfl
theorem x29 : ((Rows.fnLiveRow.pinned == Rows.fnLiveRow.pinnedBy)) = true := by kernel_rfl
theorem x30 : ((Rows.fnLiveRow.veiled == (Try.f5.params.toList ++ Rows.fnLiveSpec.plain.varTypes Try.prog ++ Try.f5.resultTypes.toList).any (Try.prog.veiledRec ·))) = true := by kernel_rfl
theorem x31 : (Rows.fnLiveRow.veiledFits Try.prog Try.f5.params.toList (Try.f5.params.toList ++ Rows.fnLiveSpec.plain.varTypes Try.prog ++ Try.f5.resultTypes.toList)) = true := by kernel_rfl
end Go.Proofs.Ytfecojefbnnknaa.fnLive
