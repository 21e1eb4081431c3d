/- Contracts of functions. -/
import Derived.Test.YtjbknbgdfhihcaaVh0
import Derived.Test.YtjbknbgdfhihcaaVK0
namespace Go.Sep
open Go.Proofs
set_option linter.unusedSimpArgs false
set_option linter.unusedVariables false
set_option maxRecDepth 100000
open Nat renaming reduceAdd → qA, reduceMul → qB, reduceEqDiff → qC, reduceBEq → qD
open Int renaming reduceToNat → qE, reduceEq → qF, reduceLT → qG, reduceLE → qH
def m147 : MFn := ⟨10, [.t 4], .seq (xr [xo 4 (.mv (xi 0))]) (.seq (.seq (xr [xv 5 0, xv 6 1, xo 7 (.bin .lss (.t 5) (.t 6))]) (.cond 7 (.seq (xr [xv 8 0, xv 4 8]) (.ret)) (.skip))) (.seq (xr [xv 9 1, xv 4 9]) (.ret)))⟩
theorem l1Min_ok (a b : Int) : CallOk Try.prog num 147 [.int .i64 a, .int .i64 b] [] (.int .i64 (if a < b then a else b)) := by
 refine EN m147 Try.func97 ?_
 unfold m147
 by_cases h : a < b
 ·simp only [go_sem, qA, qB, qC, qD, qE, qF, qG, qH, h]
  repeat refine K ?_
  refine fz ?_; simp [FinS, nilL, nilV, oneOr, -List.drop_one]
 ·simp only [go_sem, qA, qB, qC, qD, qE, qF, qG, qH, h]
  repeat refine K ?_
  refine fz ?_; simp [FinS, nilL, nilV, oneOr, -List.drop_one]
end Go.Sep
