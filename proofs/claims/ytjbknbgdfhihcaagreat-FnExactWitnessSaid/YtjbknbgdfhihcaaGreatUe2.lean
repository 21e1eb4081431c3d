/- Contracts of functions. -/
import Derived.Test.YtjbknbgdfhihcaaGreatUe0
import Derived.Test.YtjbknbgdfhihcaaGreatUa2
namespace Go.Sep
open Go.Proofs
set_option linter.unusedSimpArgs false
set_option linter.unusedVariables false
set_option maxRecDepth 100000
theorem insOk_op {x : Ins} {pl ch : Int} (h : insOk x pl ch = true) : within x.op 1 13 = true ∧ within x.r 0 3 = true ∧ within x.a 0 3 = true ∧ within x.b 0 3 = true := by
 rw [← insOkF_eq] at h
 simp only [insOkF, Bool.and_eq_true] at h
 exact ⟨h.1.1.1.1.1.2, h.1.1.1.2, h.1.1.2, h.1.2⟩
end Go.Sep
