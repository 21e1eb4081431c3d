/- The law FnOrdered returns true for all arguments, and its arguments read as before. No condition. -/
import Derived.Test.YtebbppogicgpkaaRows
import Derived.WalkKit
import Derived.ProofKit
import Derived.OpenShut
import Derived.ShutString
import Derived.ChangeOld
import Derived.Below
import Derived.SizedLaws
namespace Go.Proofs.Ytebbppogicgpkaa.fnOrdered
open Go.ChangeShapes Go.WideShapes Go.ChangeAt Go.RowKit
open Go.ChangeMaps (open_string shut_string)
set_option linter.unusedVariables false
set_option linter.unusedSimpArgs false
theorem x0 : (Rows.fnOrderedRow.wf (OpenSpec.ofChange Rows.fnOrderedSpec)) = true := by kernel_rfl
theorem x1 : (laidOutB Try.prog) = true := by kernel_rfl
theorem x2 : (mapsRowed Try.prog) = true := by kernel_rfl
theorem x3 : (Try.f3.params.all (Try.prog.readableRec ·)) = true := by kernel_rfl
theorem x4 : (namedTie Try.prog Rows.fnOrderedRow.named Rows.fnOrderedSpec.vars) = true := by kernel_rfl
theorem x5 : ((Rows.fnOrderedRow.stops == [])) = true := by kernel_rfl
theorem x6 : ((Try.prog.stops == [])) = true := by kernel_rfl
theorem x7 : ((Rows.fnOrderedRow.knobs == [])) = true := by kernel_rfl
theorem x8 : ((Try.prog.stopKnobs == [])) = true := by kernel_rfl
theorem x9 : ((Rows.fnOrderedRow.inPlace == Try.prog.inPlace 3)) = true := by kernel_rfl
theorem x10 : ((Rows.fnOrderedRow.unfollowed == Try.prog.unfollowed 3)) = true := by kernel_rfl
theorem x11 : ((Rows.fnOrderedRow.recurses == Try.prog.recurses 3)) = true := by kernel_rfl
theorem x12 : ((Rows.fnOrderedRow.named == Try.prog.varsNamed 3)) = true := by kernel_rfl
theorem x13 : ((Rows.fnOrderedRow.maps == (Try.f3.params.toList ++ Rows.fnOrderedSpec.plain.varTypes Try.prog).any (Try.prog.mapsRec ·))) = true := by kernel_rfl
theorem x14 : ((Rows.fnOrderedRow.ifaces == (Try.f3.params.toList ++ Rows.fnOrderedSpec.plain.varTypes Try.prog).any (Try.prog.ifacesRec ·))) = true := by kernel_rfl
theorem x15 : ((Rows.fnOrderedRow.mapsOut == Try.prog.mapsAmong Try.f3.resultTypes.toList)) = true := by kernel_rfl
theorem x16 : ((Rows.fnOrderedRow.loops == (Try.f3.params.toList ++ Rows.fnOrderedSpec.plain.varTypes Try.prog).any (Try.prog.loopsFrom ·))) = true := by kernel_rfl
theorem x17 : ((Rows.fnOrderedRow.wideKeys == (Try.f3.params.toList ++ Rows.fnOrderedSpec.plain.varTypes Try.prog ++ Try.f3.resultTypes.toList).any (Try.prog.wideKeysFrom ·))) = true := by kernel_rfl
theorem x18 : (Rows.fnOrderedSpec.vars.all (Try.prog.varReadable ·)) = true := by kernel_rfl
theorem x19 : (Try.f3.resultTypes.all (fun t => Try.prog.readableRec t && decide (t < Try.prog.types.size))) = true := by kernel_rfl
theorem x20 : ((Rows.fnOrderedRow.ifacesOut == Try.f3.resultTypes.toList.any (Try.prog.ifacesRec ·))) = true := by kernel_rfl
theorem x21 : ((Rows.fnOrderedRow.loopsOut == Try.f3.resultTypes.toList.any (Try.prog.loopsFrom ·))) = true := by kernel_rfl
theorem x22 : ((Rows.fnOrderedRow.plainKeys == Try.prog.plainKeys)) = true := by kernel_rfl
theorem x23 : (Rows.fnOrderedRow.shortTexts.isNone) = true := by kernel_rfl
theorem x24 : (Try.prog.stopsHeard) = true := by kernel_rfl
theorem x25 : (Try.prog.mayEnter) = true := by kernel_rfl
theorem x26 : ((Rows.fnOrderedRow.lifted == Try.prog.liftsFinal)) = true := by kernel_rfl
theorem x27 : ((Try.prog.make == some Rows.fnOrderedRow.make)) = true := by kernel_rfl
theorem x29 : ((Rows.fnOrderedRow.pinned == Rows.fnOrderedRow.pinnedBy)) = true := by kernel_rfl
theorem x30 : ((Rows.fnOrderedRow.veiled == (Try.f3.params.toList ++ Rows.fnOrderedSpec.plain.varTypes Try.prog ++ Try.f3.resultTypes.toList).any (Try.prog.veiledRec ·))) = true := by kernel_rfl
theorem x31 : (Rows.fnOrderedRow.veiledFits Try.prog Try.f3.params.toList (Try.f3.params.toList ++ Rows.fnOrderedSpec.plain.varTypes Try.prog ++ Try.f3.resultTypes.toList)) = true := by kernel_rfl
end Go.Proofs.Ytebbppogicgpkaa.fnOrdered
