/- Contracts of functions. -/
import Derived.Test.YtjbknbgdfhihcaaGreatVRa0
import Derived.Test.YtjbknbgdfhihcaaGreatVL0
namespace Go.Sep
open Go.Proofs
set_option linter.unusedSimpArgs false
set_option linter.unusedVariables false
set_option maxRecDepth 100000
open Nat renaming reduceAdd → qA, reduceMul → qB, reduceEqDiff → qC, reduceBEq → qD
open Int renaming reduceToNat → qE, reduceEq → qF, reduceLT → qG, reduceLE → qH
def m426 : MFn := ⟨16, [.t 4], .seq (xr [xb 2 0, xb 3 1, xF 4]) (.seq (xr [xm 5 4 3, xc1 6 235 (.t 5), xv 7 6, xg 8 (.fad 1 (.t 3)) 7 true, xg 9 (.load 1 false (.t 8)) 7 true, xg 10 (.len (.t 9)) 7 true, xg 11 (.fad 1 (.t 2)) 7 true, xg 12 (.load 1 false (.t 11)) 7 true, xg 13 (.len (.t 12)) 7 true, xg 14 (.bin .eql (.t 10) (.t 13)) 7 true, xo 15 (.pick (.t 7) (.t 14) (.c (.bool false))), xv 4 15]) (.ret))⟩
theorem restable_ok (p : Prog) (m : Machine) (hm : SmallM m) : CallOk Tryz.prog num 426 [.agg (progC .bw p), .agg (machineC .bw m)] [] (.bool (machineOk m && decide (m.cores.length = p.bods.length))) := by
 refine EN m426 Tryz.func109 ?_
 unfold m426
 simp only [go_sem, qA, qB, qC, qD, qE, qF, qG, qH]
 repeat refine K ?_
 refine CA [] (implMachineOk_ok m hm) ?_
 try simp only [go_sem, qA, qB, qC, qD, qE, qF, qG, qH]
 repeat refine K ?_
 cases hok : machineOk m
 ·try simp only [go_sem, qA, qB, qC, qD, qE, qF, qG, qH, hok]
  repeat refine K ?_
  refine fz ?_; simp [FinS, nilL, nilV, oneOr, -List.drop_one]
 by_cases hl : (m.cores.length : Int) = p.bods.length
 ·try simp only [go_sem, qA, qB, qC, qD, qE, qF, qG, qH, hok, hl]
  repeat refine K ?_
  refine fz ?_; simp [FinS, nilL, nilV, oneOr, -List.drop_one]
  omega
 ·try simp only [go_sem, qA, qB, qC, qD, qE, qF, qG, qH, hok, hl]
  repeat refine K ?_
  refine fz ?_; simp [FinS, nilL, nilV, oneOr, -List.drop_one]
  omega
end Go.Sep
