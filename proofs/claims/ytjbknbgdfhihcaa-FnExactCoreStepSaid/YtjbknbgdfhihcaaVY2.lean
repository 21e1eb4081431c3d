/- Contracts of functions. -/
import Derived.Test.YtjbknbgdfhihcaaVP0
import Derived.Test.YtjbknbgdfhihcaaVX2
namespace Go.Sep
open Go.Proofs
set_option linter.unusedSimpArgs false
set_option linter.unusedVariables false
set_option maxRecDepth 100000
open Nat renaming reduceAdd → qA, reduceMul → qB, reduceEqDiff → qC, reduceBEq → qD
open Int renaming reduceToNat → qE, reduceEq → qF, reduceLT → qG, reduceLE → qH
def m348 : MFn := ⟨11, [.cell 2 2 true], .seq (xr [xb 1 0, xo 2 (.alloc [xz, xz])]) (.seq (xr [xo 3 (.alloc [xz, xz])]) (.seq (xr [xa 4 0 1, xl 5 4, xa 6 0 3, ⟨none, .store 1 (.t 6) (.t 5), none⟩]) (.seq (xr [xa 7 1 1, xl 8 7, xa 9 1 3, ⟨none, .store 1 (.t 9) (.t 8), none⟩]) (.seq (xr [xm 10 2 3, ⟨none, .store 2 (.t 2) (.t 10), none⟩]) (.ret)))))⟩
theorem toPick_ok (x : Pick) : CallOk Try.prog num 348 [.agg (pickC x)] [] (.agg (pickC x)) := by
 refine EN m348 Try.func9 ?_
 unfold m348
 simp only [go_sem, qA, qB, qC, qD, qE, qF, qG, qH]
 repeat refine K ?_
 refine ⟨_, Sub.refl _, qB5 ?_⟩; simp [-List.drop_one]
end Go.Sep
