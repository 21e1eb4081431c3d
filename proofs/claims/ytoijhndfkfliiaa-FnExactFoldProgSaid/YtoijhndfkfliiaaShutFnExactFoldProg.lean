/- The law FnExactFoldProg returns true for all arguments, and its arguments read as before. No condition. -/
import Derived.Test.YtoijhndfkfliiaaRows
import Derived.WalkKit
import Derived.ProofKit
import Derived.OpenShut
import Derived.ShutString
import Derived.ChangeOld
import Derived.Below
import Derived.SizedLaws
namespace Go.Proofs.Ytoijhndfkfliiaa.fnExactFoldProg
open Go.ChangeShapes Go.WideShapes Go.ChangeAt Go.RowKit
open Go.ChangeMaps (open_string shut_string)
set_option linter.unusedVariables false
set_option linter.unusedSimpArgs false
theorem x0 : (Rows.fnExactFoldProgRow.wf (OpenSpec.ofChange Rows.fnExactFoldProgSpec)) = true := by kernel_rfl
theorem x1 : (laidOutB Try.prog) = true := by kernel_rfl
theorem x2 : (mapsRowed Try.prog) = true := by kernel_rfl
theorem x3 : (Try.f14.params.all (Try.prog.readableRec ·)) = true := by kernel_rfl
theorem x4 : (namedTie Try.prog Rows.fnExactFoldProgRow.named Rows.fnExactFoldProgSpec.vars) = true := by kernel_rfl
theorem x5 : ((Rows.fnExactFoldProgRow.stops == [])) = true := by kernel_rfl
theorem x6 : ((Try.prog.stops == [])) = true := by kernel_rfl
theorem x7 : ((Rows.fnExactFoldProgRow.knobs == [])) = true := by kernel_rfl
theorem x8 : ((Try.prog.stopKnobs == [])) = true := by kernel_rfl
theorem x9 : ((Rows.fnExactFoldProgRow.inPlace == Try.prog.inPlace 14)) = true := by kernel_rfl
theorem x10 : ((Rows.fnExactFoldProgRow.unfollowed == Try.prog.unfollowed 14)) = true := by kernel_rfl
theorem x11 : ((Rows.fnExactFoldProgRow.recurses == Try.prog.recurses 14)) = true := by kernel_rfl
theorem x12 : ((Rows.fnExactFoldProgRow.named == Try.prog.varsNamed 14)) = true := by kernel_rfl
theorem x13 : ((Rows.fnExactFoldProgRow.maps == (Try.f14.params.toList ++ Rows.fnExactFoldProgSpec.plain.varTypes Try.prog).any (Try.prog.mapsRec ·))) = true := by kernel_rfl
theorem x14 : ((Rows.fnExactFoldProgRow.ifaces == (Try.f14.params.toList ++ Rows.fnExactFoldProgSpec.plain.varTypes Try.prog).any (Try.prog.ifacesRec ·))) = true := by kernel_rfl
theorem x15 : ((Rows.fnExactFoldProgRow.mapsOut == Try.prog.mapsAmong Try.f14.resultTypes.toList)) = true := by kernel_rfl
theorem x16 : ((Rows.fnExactFoldProgRow.loops == (Try.f14.params.toList ++ Rows.fnExactFoldProgSpec.plain.varTypes Try.prog).any (Try.prog.loopsFrom ·))) = true := by kernel_rfl
theorem x17 : ((Rows.fnExactFoldProgRow.wideKeys == (Try.f14.params.toList ++ Rows.fnExactFoldProgSpec.plain.varTypes Try.prog ++ Try.f14.resultTypes.toList).any (Try.prog.wideKeysFrom ·))) = true := by kernel_rfl
theorem x18 : (Rows.fnExactFoldProgSpec.vars.all (Try.prog.varReadable ·)) = true := by kernel_rfl
theorem x19 : (Try.f14.resultTypes.all (fun t => Try.prog.readableRec t && decide (t < Try.prog.types.size))) = true := by kernel_rfl
theorem x20 : ((Rows.fnExactFoldProgRow.ifacesOut == Try.f14.resultTypes.toList.any (Try.prog.ifacesRec ·))) = true := by kernel_rfl
theorem x21 : ((Rows.fnExactFoldProgRow.loopsOut == Try.f14.resultTypes.toList.any (Try.prog.loopsFrom ·))) = true := by kernel_rfl
theorem x22 : ((Rows.fnExactFoldProgRow.plainKeys == Try.prog.plainKeys)) = true := by kernel_rfl
theorem x23 : (Rows.fnExactFoldProgRow.shortTexts.isNone) = true := by kernel_rfl
theorem x24 : (Try.prog.stopsHeard) = true := by kernel_rfl
theorem x25 : (Try.prog.mayEnter) = true := by kernel_rfl
theorem x26 : ((Rows.fnExactFoldProgRow.lifted == Try.prog.liftsFinal)) = true := by kernel_rfl
theorem x27 : ((Try.prog.make == some Rows.fnExactFoldProgRow.make)) = true := by kernel_rfl
theorem x29 : ((Rows.fnExactFoldProgRow.pinned == Rows.fnExactFoldProgRow.pinnedBy)) = true := by kernel_rfl
theorem x30 : ((Rows.fnExactFoldProgRow.veiled == (Try.f14.params.toList ++ Rows.fnExactFoldProgSpec.plain.varTypes Try.prog ++ Try.f14.resultTypes.toList).any (Try.prog.veiledRec ·))) = true := by kernel_rfl
theorem x31 : (Rows.fnExactFoldProgRow.veiledFits Try.prog Try.f14.params.toList (Try.f14.params.toList ++ Rows.fnExactFoldProgSpec.plain.varTypes Try.prog ++ Try.f14.resultTypes.toList)) = true := by kernel_rfl
end Go.Proofs.Ytoijhndfkfliiaa.fnExactFoldProg
