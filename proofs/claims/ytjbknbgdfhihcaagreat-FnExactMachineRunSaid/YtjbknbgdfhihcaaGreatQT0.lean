/- Contracts of functions. -/
import Derived.Test.YtjbknbgdfhihcaaGreatFns
import Derived.Test.YtjbknbgdfhihcaaGreatQa0
import Derived.Test.YtjbknbgdfhihcaaGreatQd0
import Derived.Test.YtjbknbgdfhihcaaGreatQe0
import Derived.Test.YtjbknbgdfhihcaaGreatQf0
import Derived.Test.YtjbknbgdfhihcaaGreatQj0
import Derived.Test.YtjbknbgdfhihcaaGreatQK0
import Derived.Test.YtjbknbgdfhihcaaGreatQt0
import Derived.Test.YtjbknbgdfhihcaaGreatQv0
import Derived.Test.YtjbknbgdfhihcaaGreatQw0
import Derived.Test.YtjbknbgdfhihcaaGreatQy0
import Derived.Test.YtjbknbgdfhihcaaGreatQz0
import Derived.Test.YtjbknbgdfhihcaaGreatQA0
import Derived.Test.YtjbknbgdfhihcaaGreatQM0
import Derived.Test.YtjbknbgdfhihcaaGreatQN0
import Derived.Test.YtjbknbgdfhihcaaGreatQQ0
namespace Go.Sep
open Go.Proofs
set_option linter.unusedSimpArgs false
set_option linter.unusedVariables false
set_option maxRecDepth 100000
open Nat renaming reduceAdd → qA, reduceMul → qB, reduceEqDiff → qC, reduceBEq → qD
open Int renaming reduceToNat → qE, reduceEq → qF, reduceLT → qG, reduceLE → qH
open List renaming getD_eq_getElem?_getD → gD

-- S2
@[simp] def mchV (m : Machine) : AV := .agg [.ns 0 0 m.codes.length, .ns 1 0 m.cores.length, .ns 2 0 m.mem.cells.length, .ns 3 0 m.tr.length]
@[simp] def mchF (m : Machine) : FP := [(0, some (1, codes .own m.codes), none), (1, some (4, cores .own m.cores), none), (2, some (1, cels .own m.mem.cells), none), (3, some (2, notes m.tr), none)]
@[simp] def mchK (m : Machine) : FP := [(0, some (1, codes .own m.codes), some (1, codes .own m.codes)), (1, some (4, cores .own m.cores), some (4, cores .own m.cores)), (2, some (1, cels .own m.mem.cells), some (1, cels .own m.mem.cells)), (3, some (2, notes m.tr), some (2, notes m.tr))]

end Go.Sep
