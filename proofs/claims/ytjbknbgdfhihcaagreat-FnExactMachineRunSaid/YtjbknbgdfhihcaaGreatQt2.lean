/- Contracts of functions. -/
import Derived.Test.YtjbknbgdfhihcaaGreatFns
import Derived.Test.YtjbknbgdfhihcaaGreatQa0
import Derived.Test.YtjbknbgdfhihcaaGreatQt0
import Derived.Test.YtjbknbgdfhihcaaGreatQa2
namespace Go.Sep
open Go.Proofs
set_option linter.unusedSimpArgs false
set_option linter.unusedVariables false
set_option maxRecDepth 100000
open Nat renaming reduceAdd → qA, reduceMul → qB, reduceEqDiff → qC, reduceBEq → qD
open Int renaming reduceToNat → qE, reduceEq → qF, reduceLT → qG, reduceLE → qH
open List renaming getD_eq_getElem?_getD → gD
theorem steps_rep (n : Nat) (op_ : Int) (r_ : Int) (a_ : Int) (b_ : Int) (n_ : Int) : List.replicate n [.int .i64 op_, .int .i64 r_, .int .i64 a_, .int .i64 b_, .int .i64 n_] = steps (List.replicate n ⟨op_, r_, a_, b_, n_⟩) := by simp [steps, stepC]
theorem pcks_rep (n : Nat) (who_ : Int) (late_ : Int) : List.replicate n [.int .i64 who_, .int .i64 late_] = pcks (List.replicate n ⟨who_, late_⟩) := by simp [pcks, pickC]
theorem pcks_getD (l : List Pick) (i : Nat) (h : i < l.length) : (pcks l).getD i [] = [.int .i64 (l.getD i default).who, .int .i64 (l.getD i default).late] := by simp [pcks, pickC, List.getD_eq_getElem?_getD, h]

end Go.Sep
