/- Contracts of functions. -/
import Derived.Test.YtjbknbgdfhihcaaGreatUN0
import Derived.Test.YtjbknbgdfhihcaaGreatUy1
import Derived.Test.YtjbknbgdfhihcaaGreatUA1
namespace Go.Sep
open Go.Proofs
set_option linter.unusedSimpArgs false
set_option linter.unusedVariables false
set_option maxRecDepth 100000
def maloneN : Nat → Machine → Int → Machine
 | 0, m, _ => m
 | n + 1, m, who => if (mstep m ⟨who, 0⟩).2 = 0 then maloneN n (mstep m ⟨who, 0⟩).1 who else (mstep m ⟨who, 0⟩).1
end Go.Sep
