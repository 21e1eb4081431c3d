/- Contracts of functions. -/
import Derived.Test.YtjbknbgdfhihcaaGreatFns
import Derived.Test.YtjbknbgdfhihcaaGreatQa0
import Derived.Test.YtjbknbgdfhihcaaGreatQd0
import Derived.Test.YtjbknbgdfhihcaaGreatQe0
import Derived.Test.YtjbknbgdfhihcaaGreatQf0
namespace Go.Sep
open Go.Proofs
set_option linter.unusedSimpArgs false
set_option linter.unusedVariables false
set_option maxRecDepth 100000
open Nat renaming reduceAdd → qA, reduceMul → qB, reduceEqDiff → qC, reduceBEq → qD
open Int renaming reduceToNat → qE, reduceEq → qF, reduceLT → qG, reduceLE → qH
open List renaming getD_eq_getElem?_getD → gD
/-- A source that is handed over whole: its rows, by name. -/
@[simp] def srcV (s : Source) : AV := .agg [.ns 0 0 s.ths.length, .ns 1 0 s.chs.length, .ns 2 0 s.tr.length]
@[simp] def srcF (s : Source) : FP := [(0, some (3, threads .own s.ths), none), (1, some (3, chans .own s.chs), none), (2, some (2, notes s.tr), none)]

end Go.Sep
