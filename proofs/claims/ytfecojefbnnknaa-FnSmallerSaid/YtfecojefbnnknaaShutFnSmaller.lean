/- The law FnSmaller returns true for all arguments, and its arguments read as before. No condition. -/
import Derived.Test.YtfecojefbnnknaaRows
import Derived.WalkKit
import Derived.ProofKit
import Derived.OpenShut
import Derived.ShutString
import Derived.ChangeOld
import Derived.Below
import Derived.SizedLaws
namespace Go.Proofs.Ytfecojefbnnknaa.fnSmaller
open Go.ChangeShapes Go.WideShapes Go.ChangeAt Go.RowKit
open Go.ChangeMaps (open_string shut_string)
set_option linter.unusedVariables false
set_option linter.unusedSimpArgs false
theorem x0 : (Rows.fnSmallerRow.wf (OpenSpec.ofChange Rows.fnSmallerSpec)) = true := by kernel_rfl
theorem x1 : (laidOutB Try.prog) = true := by kernel_rfl
theorem x2 : (mapsRowed Try.prog) = true := by kernel_rfl
theorem x3 : (Try.f4.params.all (Try.prog.readableRec ·)) = true := by kernel_rfl
theorem x4 : (namedTie Try.prog Rows.fnSmallerRow.named Rows.fnSmallerSpec.vars) = true := by kernel_rfl
theorem x5 : ((Rows.fnSmallerRow.stops == [])) = true := by kernel_rfl
theorem x6 : ((Try.prog.stops == [])) = true := by kernel_rfl
theorem x7 : ((Rows.fnSmallerRow.knobs == [])) = true := by kernel_rfl
theorem x8 : ((Try.prog.stopKnobs == [])) = true := by kernel_rfl
theorem x9 : ((Rows.fnSmallerRow.inPlace == Try.prog.inPlace 4)) = true := by kernel_rfl
theorem x10 : ((Rows.fnSmallerRow.unfollowed == Try.prog.unfollowed 4)) = true := by kernel_rfl
theorem x11 : ((Rows.fnSmallerRow.recurses == Try.prog.recurses 4)) = true := by kernel_rfl
theorem x12 : ((Rows.fnSmallerRow.named == Try.prog.varsNamed 4)) = true := by kernel_rfl
theorem x13 : ((Rows.fnSmallerRow.maps == (Try.f4.params.toList ++ Rows.fnSmallerSpec.plain.varTypes Try.prog).any (Try.prog.mapsRec ·))) = true := by kernel_rfl
theorem x14 : ((Rows.fnSmallerRow.ifaces == (Try.f4.params.toList ++ Rows.fnSmallerSpec.plain.varTypes Try.prog).any (Try.prog.ifacesRec ·))) = true := by kernel_rfl
theorem x15 : ((Rows.fnSmallerRow.mapsOut == Try.prog.mapsAmong Try.f4.resultTypes.toList)) = true := by kernel_rfl
theorem x16 : ((Rows.fnSmallerRow.loops == (Try.f4.params.toList ++ Rows.fnSmallerSpec.plain.varTypes Try.prog).any (Try.prog.loopsFrom ·))) = true := by kernel_rfl
theorem x17 : ((Rows.fnSmallerRow.wideKeys == (Try.f4.params.toList ++ Rows.fnSmallerSpec.plain.varTypes Try.prog ++ Try.f4.resultTypes.toList).any (Try.prog.wideKeysFrom ·))) = true := by kernel_rfl
theorem x18 : (Rows.fnSmallerSpec.vars.all (Try.prog.varReadable ·)) = true := by kernel_rfl
theorem x19 : (Try.f4.resultTypes.all (fun t => Try.prog.readableRec t && decide (t < Try.prog.types.size))) = true := by kernel_rfl
theorem x20 : ((Rows.fnSmallerRow.ifacesOut == Try.f4.resultTypes.toList.any (Try.prog.ifacesRec ·))) = true := by kernel_rfl
theorem x21 : ((Rows.fnSmallerRow.loopsOut == Try.f4.resultTypes.toList.any (Try.prog.loopsFrom ·))) = true := by kernel_rfl
theorem x22 : ((Rows.fnSmallerRow.plainKeys == Try.prog.plainKeys)) = true := by kernel_rfl
theorem x23 : (Rows.fnSmallerRow.shortTexts.isNone) = true := by kernel_rfl
theorem x24 : (Try.prog.stopsHeard) = true := by kernel_rfl
theorem x25 : (Try.prog.mayEnter) = true := by kernel_rfl
theorem x26 : ((Rows.fnSmallerRow.lifted == Try.prog.liftsFinal)) = true := by kernel_rfl
theorem x27 : ((Try.prog.make == some Rows.fnSmallerRow.make)) = true := by kernel_rfl
theorem x29 : ((Rows.fnSmallerRow.pinned == Rows.fnSmallerRow.pinnedBy)) = true := by kernel_rfl
theorem x30 : ((Rows.fnSmallerRow.veiled == (Try.f4.params.toList ++ Rows.fnSmallerSpec.plain.varTypes Try.prog ++ Try.f4.resultTypes.toList).any (Try.prog.veiledRec ·))) = true := by kernel_rfl
theorem x31 : (Rows.fnSmallerRow.veiledFits Try.prog Try.f4.params.toList (Try.f4.params.toList ++ Rows.fnSmallerSpec.plain.varTypes Try.prog ++ Try.f4.resultTypes.toList)) = true := by kernel_rfl
end Go.Proofs.Ytfecojefbnnknaa.fnSmaller
