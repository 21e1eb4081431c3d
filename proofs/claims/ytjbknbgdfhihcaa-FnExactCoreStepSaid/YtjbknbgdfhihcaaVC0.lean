/- Contracts of functions. -/
import Derived.Test.YtjbknbgdfhihcaaVy0
import Derived.Test.YtjbknbgdfhihcaaVA0
namespace Go.Sep
open Go.Proofs
set_option linter.unusedSimpArgs false
set_option linter.unusedVariables false
set_option maxRecDepth 100000
open Nat renaming reduceAdd → qA, reduceMul → qB, reduceEqDiff → qC, reduceBEq → qD
open Int renaming reduceToNat → qE, reduceEq → qF, reduceLT → qG, reduceLE → qH
def m229 : MFn := ⟨13, [.t 4], .seq (xr [xF 4]) (.seq (xr [xv 5 1, xv 6 0, xk 7 6, xa 8 1 7, xl 9 8, xe 10 9, xo 11 (.bin .sub (.t 10) (xi 1)), xc3 12 59 (.t 5) (xi 0) (.t 11), xv 4 12]) (.ret))⟩
theorem isCore_ok (m : Machine) (who : Int) (hl : m.cores.length < 2 ^ 40) : CallOk Try.prog num 229 [.fptr .bw (machineC .bw m) 0, .int .i64 who] [] (.bool (within who 0 (m.cores.length - 1))) := by
 have w1 : IntKind.i64.wrap ((m.cores.length : Int) - 1) = m.cores.length - 1 := qAs (by omega) (by omega)
 refine EN m229 Try.func82 ?_
 unfold m229
 simp only [go_sem, qA, qB, qC, qD, qE, qF, qG, qH, w1]
 repeat refine K ?_
 refine CA [] (qAv who 0 (m.cores.length - 1)) ?_
 try simp only [go_sem, qA, qB, qC, qD, qE, qF, qG, qH]
 repeat refine K ?_
 refine fz ?_; simp [FinS, nilL, nilV, oneOr, -List.drop_one]
end Go.Sep
