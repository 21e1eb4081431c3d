/- Contracts of functions. -/
import Derived.Test.YtjbknbgdfhihcaaGreatFns
import Derived.Test.YtjbknbgdfhihcaaGreatQa0
import Derived.Test.YtjbknbgdfhihcaaGreatQt0
import Derived.Test.YtjbknbgdfhihcaaGreatQa1
namespace Go.Sep
open Go.Proofs
set_option linter.unusedSimpArgs false
set_option linter.unusedVariables false
set_option maxRecDepth 100000
open Nat renaming reduceAdd → qA, reduceMul → qB, reduceEqDiff → qC, reduceBEq → qD
open Int renaming reduceToNat → qE, reduceEq → qF, reduceLT → qG, reduceLE → qH
open List renaming getD_eq_getElem?_getD → gD
theorem steps_one (op_ : Int) (r_ : Int) (a_ : Int) (b_ : Int) (n_ : Int) : [[.int .i64 op_, .int .i64 r_, .int .i64 a_, .int .i64 b_, .int .i64 n_]] = steps [⟨op_, r_, a_, b_, n_⟩] := rfl
/-- What puts steps together: those so far, where they begin, the base and the room of a channel. -/
structure Em where
  list : List Step
  from_ : Int
  base : Int
  room : Int
  deriving Inhabited
def emC (m : Mode) (x : Em) : List AV := [.sl m 5 (steps x.list), .int .i64 x.from_, .int .i64 x.base, .int .i64 x.room]
attribute [go_sem] emC
attribute [simp] emC

end Go.Sep
