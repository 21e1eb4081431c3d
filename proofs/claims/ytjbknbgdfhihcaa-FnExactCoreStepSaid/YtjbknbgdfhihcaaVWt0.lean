/- Contracts of functions. -/
import Derived.Test.YtjbknbgdfhihcaaVh0
import Derived.Test.YtjbknbgdfhihcaaVP0
import Derived.Test.YtjbknbgdfhihcaaVX0
import Derived.Test.YtjbknbgdfhihcaaVL0
namespace Go.Sep
open Go.Proofs
set_option linter.unusedSimpArgs false
set_option linter.unusedVariables false
set_option maxRecDepth 100000
theorem notes_ren (f : Nat → Nat) (l : List Note) : renR f (notes l) = notes l := renR_nb f _ ((qBz l).2 trivial)
theorem notes_okR {A : Nat → Prop} (l : List Note) : okR A (notes l) ↔ True := by simp [okR_nb _ ((qBz l).2 trivial)]
theorem steps_ren (f : Nat → Nat) (l : List Step) : renR f (steps l) = steps l := renR_nb f _ ((steps_nb l).2 trivial)
theorem steps_okR {A : Nat → Prop} (l : List Step) : okR A (steps l) ↔ True := by simp [okR_nb _ ((steps_nb l).2 trivial)]
attribute [go_sem] notes_ren steps_ren
attribute [simp] notes_ren steps_ren notes_okR steps_okR
@[simp] def mchG (m : Machine) (j : Nat) : FP := [(0, some (1, (codes .own m.codes).set j [.ns 4 0 (m.codes.getD j []).length]), some (1, (codes .own m.codes).set j [.ns 4 0 (m.codes.getD j []).length])), (1, some (4, cores .own m.cores), some (4, cores .own m.cores)), (2, some (1, cels .own m.mem.cells), some (1, cels .own m.mem.cells)), (3, some (2, notes m.tr), some (2, notes m.tr)), (4, some (5, steps (m.codes.getD j [])), some (5, steps (m.codes.getD j [])))]
attribute [go_sem] mchG
end Go.Sep
