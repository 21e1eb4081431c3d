/- Contracts of functions. -/
import Derived.Test.YtjbknbgdfhihcaaGreatFns
import Derived.Test.YtjbknbgdfhihcaaGreatQa0
import Derived.Test.YtjbknbgdfhihcaaGreatQf0
import Derived.Test.YtjbknbgdfhihcaaGreatQa2
namespace Go.Sep
open Go.Proofs
set_option linter.unusedSimpArgs false
set_option linter.unusedVariables false
set_option maxRecDepth 100000
open Nat renaming reduceAdd → qA, reduceMul → qB, reduceEqDiff → qC, reduceBEq → qD
open Int renaming reduceToNat → qE, reduceEq → qF, reduceLT → qG, reduceLE → qH
open List renaming getD_eq_getElem?_getD → gD
theorem set_getD_self {α : Type} (l : List α) (i : Nat) (d : α) (h : i < l.length) : l.set i (l.getD i d) = l := by
  rw [List.getD_eq_getElem?_getD, List.getElem?_eq_getElem h, Option.getD_some, List.set_getElem_self]

end Go.Sep
