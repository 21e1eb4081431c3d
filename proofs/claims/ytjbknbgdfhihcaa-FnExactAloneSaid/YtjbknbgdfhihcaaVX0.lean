/- Contracts of functions. -/
import Derived.Test.YtjbknbgdfhihcaaVO0
import Derived.Test.YtjbknbgdfhihcaaVS0
import Derived.Test.YtjbknbgdfhihcaaVV0
namespace Go.Sep
open Go.Proofs
set_option linter.unusedSimpArgs false
set_option linter.unusedVariables false
set_option maxRecDepth 100000
theorem mstep_none {m : Machine} {x : Pick} (h : within x.who 0 (m.cores.length - 1) = false) : mstep m x = (m, 2) := by
 have hc : mcode m x.who = 2 := by
  unfold mcode
  rw [h]
  rfl
 unfold mstep
 rw [hc]
 rfl
end Go.Sep
