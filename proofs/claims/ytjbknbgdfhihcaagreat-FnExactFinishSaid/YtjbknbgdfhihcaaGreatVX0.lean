/- Contracts of functions. -/
import Derived.Test.YtjbknbgdfhihcaaGreatVO0
import Derived.Test.YtjbknbgdfhihcaaGreatVS0
import Derived.Test.YtjbknbgdfhihcaaGreatVV0
namespace Go.Sep
open Go.Proofs
set_option linter.unusedSimpArgs false
set_option linter.unusedVariables false
set_option maxRecDepth 100000
def pkOk (x : Pick) : Prop := -(2 ^ 63) ≤ x.late ∧ x.late < 2 ^ 63
theorem mstep_none {m : Machine} {x : Pick} (h : within x.who 0 (m.cores.length - 1) = false) : mstep m x = (m, 2) := by
 have hc : mcode m x.who = 2 := by
  unfold mcode
  rw [h]
  rfl
 unfold mstep
 rw [hc]
 rfl
end Go.Sep
