/- Contracts of functions. -/
import Derived.Test.YtjbknbgdfhihcaaVj0
import Derived.Test.YtjbknbgdfhihcaaVt0
namespace Go.Sep
open Go.Proofs
set_option linter.unusedSimpArgs false
set_option linter.unusedVariables false
set_option maxRecDepth 100000
def sumC : List Int → Int
 | [] => 0
 | c :: l => c + 4 + sumC l
def lieOk (caps : List Int) : Bool := capsOk caps && decide (sumC caps ≤ 24)
def base (caps : List Int) (n : Int) : Int := if within n 0 (caps.length - 1) && lieOk caps then sumC (caps.take n.toNat) else -1
end Go.Sep
