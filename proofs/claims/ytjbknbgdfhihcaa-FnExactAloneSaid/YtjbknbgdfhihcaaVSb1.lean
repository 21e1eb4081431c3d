/- Contracts of functions. -/
import Derived.Test.YtjbknbgdfhihcaaVP0
import Derived.Test.YtjbknbgdfhihcaaVSa1
namespace Go.Sep
open Go.Proofs
set_option linter.unusedSimpArgs false
set_option linter.unusedVariables false
set_option maxRecDepth 100000
open Nat renaming reduceAdd → qA, reduceMul → qB, reduceEqDiff → qC, reduceBEq → qD
open Int renaming reduceToNat → qE, reduceEq → qF, reduceLT → qG, reduceLE → qH
def m353 : MFn := ⟨79, [.t 6], .seq (xr [xb 3 0, xF 6]) (.seq (xr [xo 7 (.mv (xi 1048576))]) (.seq (xr [xm 15 4 3, xv 16 7, xc2 17 172 (.t 15) (.t 16), xv 7 17]) (.seq (.seq (xr [xv 18 7, xo 19 (.bin .lss (.t 18) (xi 0))]) (.cond 19 (.seq (xr [xT 6]) (.ret)) (.skip))) (.seq (xr [xm 20 4 3, xc1 21 173 (.t 20), xv 22 1, xv 23 2, xc3 24 354 (.t 21) (.t 22) (.t 23), xo 8 (.alloc [.nil, .nil, .nil, .nil]), ⟨none, .store 4 (.t 8) (.t 24), none⟩]) (.seq (xr [xm 25 4 3, xc1 26 173 (.t 25), xo 9 (.alloc [.nil, .nil, .nil, .nil]), ⟨none, .store 4 (.t 9) (.t 26), none⟩]) (.seq (xr [xm 27 4 9, xv 28 1, xv 29 2, xc3 30 355 (.t 27) (.t 28) (.t 29), xo 10 (.alloc [.nil, .nil, .nil, .nil]), ⟨none, .store 4 (.t 10) (.t 30), none⟩]) (.seq (.seq (xr [xm 31 4 10, xm 32 4 8, xc2 33 176 (.t 31) (.t 32), xo 34 (.un .«not» (.t 33))]) (.cond 34 (.seq (xr [xF 6]) (.ret)) (.skip))) (.seq (.seq (.dreg (.take 0 (xm 35 4 9) (.only 1 [] (xm 36 4 3) (.only 2 [] (xc1 37 173 (.t 36)) (.only 3 [0] (xc2 38 176 (.t 35) (.t 37)) (.only 4 [3, 0] (xo 39 (.un .«not» (.t 38))) (.done))))))) (.cond 39 (.seq (xr [xF 6]) (.ret)) (.skip))) (.seq (xr [xo 11 (.mv (xi 1))]) (.seq (xr [xm 40 4 9, xv 41 11, xo 42 (.call 351 [true, false] [.t 40, .t 41]), xv 11 42]) (.seq (.seq (xr [xv 43 11, xo 44 (.bin .lss (.t 43) (xi 0)), xv 45 44, xg 46 (.load 4 true (.t 10)) 45 false, xg 47 (.load 4 true (.t 8)) 45 false, xg 48 (.call 176 [false, false] [.t 46, .t 47]) 45 false, xg 49 (.un .«not» (.t 48)) 45 false, xo 50 (.pick (.t 45) (.c (.bool true)) (.t 49))]) (.cond 50 (.seq (xr [xF 6]) (.ret)) (.skip))) (.seq (xr [xo 12 (.mv (xi 1))]) (.seq (xr [xm 51 4 10, xv 52 12, xo 53 (.call 351 [true, false] [.t 51, .t 52]), xv 12 53]) (.seq (xr [xo 13 (.mv (xi 1))]) (.seq (xr [xm 54 4 10, xv 55 13, xc2 56 352 (.t 54) (.t 55), xv 13 56]) (.seq (.seq (xr [xv 57 13, xo 58 (.bin .lss (.t 57) (xi 0))]) (.cond 58 (.seq (xr [xF 6]) (.ret)) (.skip))) (.seq (.seq (xr [xv 59 13, xv 60 12, xo 61 (.bin .neq (.t 59) (.t 60))]) (.cond 61 (.seq (xr [xF 6]) (.ret)) (.skip))) (.seq (xr [xm 62 4 3, xc1 63 173 (.t 62), xv 64 1, xv 65 2, xc3 66 355 (.t 63) (.t 64) (.t 65), xo 14 (.alloc [.nil, .nil, .nil, .nil]), ⟨none, .store 4 (.t 14) (.t 66), none⟩]) (.seq (.seq (xr [xm 67 4 14, xm 68 4 8, xc2 69 176 (.t 67) (.t 68), xo 70 (.un .«not» (.t 69))]) (.cond 70 (.seq (xr [xF 6]) (.ret)) (.skip))) (.seq (xr [xo 13 (.mv (xi 1))]) (.seq (xr [xm 71 4 10, xv 72 13, xc2 73 352 (.t 71) (.t 72), xv 13 73]) (.seq (.seq (xr [xv 74 13, xo 75 (.bin .lss (.t 74) (xi 0))]) (.cond 75 (.seq (xr [xF 6]) (.ret)) (.skip))) (.seq (.seq (xr [xv 76 13, xv 77 12, xo 78 (.bin .neq (.t 76) (.t 77))]) (.cond 78 (.seq (xr [xF 6]) (.ret)) (.skip))) (.seq (xr [xT 6]) (.ret)))))))))))))))))))))))))⟩
set_option maxHeartbeats 8000000 in
theorem exactAlone_ok (m : Machine) (who steps : Int) (hm0 : LongM m) : CallOk Try.prog num 353 [.agg (machineC .bw m), .int .i64 who, .int .i64 steps] [] (.bool true) := by
 refine EN m353 Try.func4 ?_
 unfold m353
 simp only [go_sem, qA, qB, qC, qD, qE, qF, qG, qH]
 repeat refine K ?_
 refine CA [] (szMachine_ok m 1048576 hm0 (by omega) (by omega)) ?_
 try simp only [go_sem, qA, qB, qC, qD, qE, qF, qG, qH]
 repeat refine K ?_
 have l2 := szL_le (k := zMachine m) (n := 1048576) (by omega)
 refine qA2 (fun hc2 => ?_) (fun hc2 => ?_)
 ·simp only [go_sem, qA, qB, qC, qD, qE, qF, qG, qH]
  repeat refine K ?_
  refine fz ?_; simp [FinS, nilL, nilV, oneOr, -List.drop_one]
 simp only [decide_eq_false_iff_not] at hc2
 have hz : zMachine m ≤ 1048576 := by have := szL_ge hc2 (by omega); omega
 have hm := smallM_of hz (by omega)
 clear hc2 hm0 l2
 have tm := toMachine_ok m hm
 have em := eqMachine_ok m m hm
 have wm := wMachine_z m
 have cs := specAlone_ok m who steps hm
 have ci := implAlone_ok m who steps hm
 have wz := aloneM_z (m := m) (who := who) (steps := steps)
 generalize aloneM m who steps = w at *
 have hw := smallM_of (m := w) (n := 4000000) wz (by omega)
 have ww := wMachine_z w
 have ew := eqMachine_ok w w hw
 have d1 : decide ((1 : Int) + wMachine w < 0) = false := by simp; omega
 have d2 : decide ((1 : Int) + wMachine m < 0) = false := by simp; omega
 have hh := heldMachine_ok w 1 hw (by omega) (by omega)
 have hh0 := hh
 unfold machineMarks at hh
 simp only [go_sem, qA, qB, qC, qD, qE, qF, qG, qH]
 repeat refine K ?_
 refine CA [] (tm) ?_
 try simp only [go_sem, qA, qB, qC, qD, qE, qF, qG, qH]
 repeat refine K ?_
 try simp only [go_sem, qA, qB, qC, qD, qE, qF, qG, qH]
 repeat refine K ?_
 refine CA [] (cs) ?_
 try simp only [go_sem, qA, qB, qC, qD, qE, qF, qG, qH]
 repeat refine K ?_
 try simp only [go_sem, qA, qB, qC, qD, qE, qF, qG, qH]
 repeat refine K ?_
 refine CA [] (tm) ?_
 try simp only [go_sem, qA, qB, qC, qD, qE, qF, qG, qH]
 repeat refine K ?_
 try simp only [go_sem, qA, qB, qC, qD, qE, qF, qG, qH]
 repeat refine K ?_
 refine CA [] (ci) ?_
 try simp only [go_sem, qA, qB, qC, qD, qE, qF, qG, qH]
 repeat refine K ?_
 try simp only [go_sem, qA, qB, qC, qD, qE, qF, qG, qH]
 repeat refine K ?_
 refine CA [] (ew) ?_
 try simp only [go_sem, qA, qB, qC, qD, qE, qF, qG, qH]
 repeat refine K ?_
 try simp only [go_sem, qA, qB, qC, qD, qE, qF, qG, qH]
 repeat refine K ?_
 refine DA [] (tm) ?_
 try simp only [go_sem, qA, qB, qC, qD, qE, qF, qG, qH]
 repeat refine K ?_
 refine DA [] (em) ?_
 try simp only [go_sem, qA, qB, qC, qD, qE, qF, qG, qH]
 repeat refine K ?_
 try simp only [go_sem, qA, qB, qC, qD, qE, qF, qG, qH]
 repeat refine K ?_
 refine CA [(0, 20), (1, 21), (2, 22), (3, 23)] (markMachine_ok m 1 hm (by omega) (by omega)) ?_
 try simp only [go_sem, qA, qB, qC, qD, qE, qF, qG, qH]
 repeat refine K ?_
 try simp only [go_sem, qA, qB, qC, qD, qE, qF, qG, qH, d2]
 repeat refine K ?_
 refine CA [] (ew) ?_
 try simp only [go_sem, qA, qB, qC, qD, qE, qF, qG, qH]
 repeat refine K ?_
 try simp only [go_sem, qA, qB, qC, qD, qE, qF, qG, qH]
 repeat refine K ?_
 refine CA [(0, 25), (1, 26), (2, 27), (3, 28)] (markMachine_ok w 1 hw (by omega) (by omega)) ?_
 try simp only [go_sem, qA, qB, qC, qD, qE, qF, qG, qH]
 repeat refine K ?_
 try simp only [go_sem, qA, qB, qC, qD, qE, qF, qG, qH]
 repeat refine K ?_
 refine CA [] (hh) ?_
 try simp only [go_sem, qA, qB, qC, qD, qE, qF, qG, qH]
 repeat refine K ?_
 try simp only [go_sem, qA, qB, qC, qD, qE, qF, qG, qH, d1]
 repeat refine K ?_
 refine CA [] (tm) ?_
 try simp only [go_sem, qA, qB, qC, qD, qE, qF, qG, qH]
 repeat refine K ?_
 try simp only [go_sem, qA, qB, qC, qD, qE, qF, qG, qH]
 repeat refine K ?_
 refine CA [] (ci) ?_
 try simp only [go_sem, qA, qB, qC, qD, qE, qF, qG, qH]
 repeat refine K ?_
 try simp only [go_sem, qA, qB, qC, qD, qE, qF, qG, qH]
 repeat refine K ?_
 refine CA [] (ew) ?_
 try simp only [go_sem, qA, qB, qC, qD, qE, qF, qG, qH]
 repeat refine K ?_
 try simp only [go_sem, qA, qB, qC, qD, qE, qF, qG, qH]
 repeat refine K ?_
 refine CA [] (hh) ?_
 try simp only [go_sem, qA, qB, qC, qD, qE, qF, qG, qH]
 repeat refine K ?_
 try simp only [go_sem, qA, qB, qC, qD, qE, qF, qG, qH, d1]
 repeat refine K ?_
 refine fz ?_; simp [FinS, nilL, nilV, oneOr, -List.drop_one]
end Go.Sep
