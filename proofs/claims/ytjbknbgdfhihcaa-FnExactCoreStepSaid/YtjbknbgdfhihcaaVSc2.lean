/- Contracts of functions. -/
import Derived.Test.YtjbknbgdfhihcaaVY2
import Derived.Test.YtjbknbgdfhihcaaVSa2
import Derived.Test.YtjbknbgdfhihcaaVSl2
namespace Go.Sep
open Go.Proofs
set_option linter.unusedSimpArgs false
set_option linter.unusedVariables false
set_option maxRecDepth 100000
open Nat renaming reduceAdd → qA, reduceMul → qB, reduceEqDiff → qC, reduceBEq → qD
open Int renaming reduceToNat → qE, reduceEq → qF, reduceLT → qG, reduceLE → qH
def m347 : MFn := ⟨104, [.t 4], .seq (xr [xb 2 0, xb 3 1, xF 4]) (.seq (xr [xo 5 (.mv (xi 1048576))]) (.seq (xr [xm 16 4 2, xv 17 5, xc2 18 172 (.t 16) (.t 17), xv 5 18]) (.seq (.seq (xr [xv 19 5, xo 20 (.bin .lss (.t 19) (xi 0))]) (.cond 20 (.seq (xr [xT 4]) (.ret)) (.skip))) (.seq (.dreg (.take 0 (xm 22 4 2) (.take 2 (xm 24 2 3) (.both 1 [0] (xc1 23 173 (.t 22)) (.both 3 [1, 2, 0] (xc1 25 348 (.t 24)) (.both 4 [1, 3, 0, 2] (xc2 26 349 (.t 23) (.t 25)) (.take 5 (xv 21 26) (.take 6 (xo 27 (.ext (.t 21) 0)) (.take 7 (xo 28 (.ext (.t 21) 1)) (.only 8 [] (xo 6 (.alloc [.nil, .nil, .nil, .nil])) (.only 9 [0, 2, 5, 6] ⟨none, .store 4 (.t 6) (.t 27), none⟩ (.only 10 [0, 2, 5, 6, 7] (xv 7 28) (.done))))))) 8 [] (xo 6 (.alloc [.nil, .nil, .nil, .nil])) (.only 4 [1, 3, 0, 2] (xc2 26 349 (.t 23) (.t 25)) (.only 5 [4, 1, 3, 0, 2] (xv 21 26) (.take 6 (xo 27 (.ext (.t 21) 0)) (.take 7 (xo 28 (.ext (.t 21) 1)) (.only 9 [0, 2, 6] ⟨none, .store 4 (.t 6) (.t 27), none⟩ (.only 10 [0, 2, 6, 7] (xv 7 28) (.done)))))))) 8 [] (xo 6 (.alloc [.nil, .nil, .nil, .nil])) (.only 3 [1, 2, 0] (xc1 25 348 (.t 24)) (.only 4 [1, 3, 0, 2] (xc2 26 349 (.t 23) (.t 25)) (.only 5 [4, 1, 3, 0, 2] (xv 21 26) (.take 6 (xo 27 (.ext (.t 21) 0)) (.take 7 (xo 28 (.ext (.t 21) 1)) (.only 9 [0, 2, 6] ⟨none, .store 4 (.t 6) (.t 27), none⟩ (.only 10 [0, 2, 6, 7] (xv 7 28) (.done))))))))) 8 [] (xo 6 (.alloc [.nil, .nil, .nil, .nil])) (.only 1 [0] (xc1 23 173 (.t 22)) (.only 3 [1, 2, 0] (xc1 25 348 (.t 24)) (.only 4 [1, 3, 0, 2] (xc2 26 349 (.t 23) (.t 25)) (.only 5 [4, 1, 3, 0, 2] (xv 21 26) (.take 6 (xo 27 (.ext (.t 21) 0)) (.take 7 (xo 28 (.ext (.t 21) 1)) (.only 9 [0, 2, 6] ⟨none, .store 4 (.t 6) (.t 27), none⟩ (.only 10 [0, 2, 6, 7] (xv 7 28) (.done))))))))))))) (.seq (xr [xm 29 4 2, xc1 30 173 (.t 29), xo 8 (.alloc [.nil, .nil, .nil, .nil]), ⟨none, .store 4 (.t 8) (.t 30), none⟩]) (.seq (.dreg (.take 0 (xm 32 4 8) (.take 1 (xm 33 2 3) (.both 2 [1] (xc1 34 348 (.t 33)) (.both 3 [0, 2, 1] (xc2 35 350 (.t 32) (.t 34)) (.take 4 (xv 31 35) (.take 5 (xo 36 (.ext (.t 31) 0)) (.take 6 (xo 37 (.ext (.t 31) 1)) (.only 7 [] (xo 9 (.alloc [.nil, .nil, .nil, .nil])) (.only 8 [0, 1, 4, 5] ⟨none, .store 4 (.t 9) (.t 36), none⟩ (.only 9 [0, 1, 4, 5, 6] (xv 10 37) (.done))))))) 7 [] (xo 9 (.alloc [.nil, .nil, .nil, .nil])) (.only 3 [0, 2, 1] (xc2 35 350 (.t 32) (.t 34)) (.only 4 [3, 0, 2, 1] (xv 31 35) (.take 5 (xo 36 (.ext (.t 31) 0)) (.take 6 (xo 37 (.ext (.t 31) 1)) (.only 8 [0, 1, 5] ⟨none, .store 4 (.t 9) (.t 36), none⟩ (.only 9 [0, 1, 5, 6] (xv 10 37) (.done)))))))) 7 [] (xo 9 (.alloc [.nil, .nil, .nil, .nil])) (.only 2 [1] (xc1 34 348 (.t 33)) (.only 3 [0, 2, 1] (xc2 35 350 (.t 32) (.t 34)) (.only 4 [3, 0, 2, 1] (xv 31 35) (.take 5 (xo 36 (.ext (.t 31) 0)) (.take 6 (xo 37 (.ext (.t 31) 1)) (.only 8 [0, 1, 5] ⟨none, .store 4 (.t 9) (.t 36), none⟩ (.only 9 [0, 1, 5, 6] (xv 10 37) (.done)))))))))))) (.seq (.seq (xr [xm 38 4 9, xm 39 4 6, xc2 40 176 (.t 38) (.t 39), xo 41 (.un .«not» (.t 40)), xv 42 41, xg 43 (.mv (.t 10)) 42 false, xg 44 (.mv (.t 7)) 42 false, xg 45 (.bin .neq (.t 43) (.t 44)) 42 false, xo 46 (.pick (.t 42) (.c (.bool true)) (.t 45))]) (.cond 46 (.seq (xr [xF 4]) (.ret)) (.skip))) (.seq (.seq (.dreg (.take 0 (xm 47 4 8) (.only 1 [] (xm 48 4 2) (.only 2 [] (xc1 49 173 (.t 48)) (.only 3 [0] (xc2 50 176 (.t 47) (.t 49)) (.only 4 [3, 0] (xo 51 (.un .«not» (.t 50))) (.done))))))) (.cond 51 (.seq (xr [xF 4]) (.ret)) (.skip))) (.seq (xr [xo 11 (.mv (xi 1))]) (.seq (xr [xm 52 4 8, xv 53 11, xo 54 (.call 351 [true, false] [.t 52, .t 53]), xv 11 54]) (.seq (.seq (xr [xv 55 11, xo 56 (.bin .lss (.t 55) (xi 0)), xv 57 56, xg 58 (.load 4 true (.t 9)) 57 false, xg 59 (.load 4 true (.t 6)) 57 false, xg 60 (.call 176 [false, false] [.t 58, .t 59]) 57 false, xg 61 (.un .«not» (.t 60)) 57 false, xo 62 (.pick (.t 57) (.c (.bool true)) (.t 61)), xv 63 62, xg 64 (.mv (.t 10)) 63 false, xg 65 (.mv (.t 7)) 63 false, xg 66 (.bin .neq (.t 64) (.t 65)) 63 false, xo 67 (.pick (.t 63) (.c (.bool true)) (.t 66))]) (.cond 67 (.seq (xr [xF 4]) (.ret)) (.skip))) (.seq (xr [xo 12 (.mv (xi 1))]) (.seq (xr [xm 68 4 9, xv 69 12, xo 70 (.call 351 [true, false] [.t 68, .t 69]), xv 12 70]) (.seq (xr [xo 13 (.mv (xi 1))]) (.seq (xr [xm 71 4 9, xv 72 13, xc2 73 352 (.t 71) (.t 72), xv 13 73]) (.seq (.seq (xr [xv 74 13, xo 75 (.bin .lss (.t 74) (xi 0))]) (.cond 75 (.seq (xr [xF 4]) (.ret)) (.skip))) (.seq (.seq (xr [xv 76 13, xv 77 12, xo 78 (.bin .neq (.t 76) (.t 77))]) (.cond 78 (.seq (xr [xF 4]) (.ret)) (.skip))) (.seq (.dreg (.take 0 (xm 80 4 2) (.take 2 (xm 82 2 3) (.both 1 [0] (xc1 81 173 (.t 80)) (.both 3 [1, 2, 0] (xc1 83 348 (.t 82)) (.both 4 [1, 3, 0, 2] (xc2 84 350 (.t 81) (.t 83)) (.take 5 (xv 79 84) (.take 6 (xo 85 (.ext (.t 79) 0)) (.take 7 (xo 86 (.ext (.t 79) 1)) (.only 8 [] (xo 14 (.alloc [.nil, .nil, .nil, .nil])) (.only 9 [0, 2, 5, 6] ⟨none, .store 4 (.t 14) (.t 85), none⟩ (.only 10 [0, 2, 5, 6, 7] (xv 15 86) (.done))))))) 8 [] (xo 14 (.alloc [.nil, .nil, .nil, .nil])) (.only 4 [1, 3, 0, 2] (xc2 84 350 (.t 81) (.t 83)) (.only 5 [4, 1, 3, 0, 2] (xv 79 84) (.take 6 (xo 85 (.ext (.t 79) 0)) (.take 7 (xo 86 (.ext (.t 79) 1)) (.only 9 [0, 2, 6] ⟨none, .store 4 (.t 14) (.t 85), none⟩ (.only 10 [0, 2, 6, 7] (xv 15 86) (.done)))))))) 8 [] (xo 14 (.alloc [.nil, .nil, .nil, .nil])) (.only 3 [1, 2, 0] (xc1 83 348 (.t 82)) (.only 4 [1, 3, 0, 2] (xc2 84 350 (.t 81) (.t 83)) (.only 5 [4, 1, 3, 0, 2] (xv 79 84) (.take 6 (xo 85 (.ext (.t 79) 0)) (.take 7 (xo 86 (.ext (.t 79) 1)) (.only 9 [0, 2, 6] ⟨none, .store 4 (.t 14) (.t 85), none⟩ (.only 10 [0, 2, 6, 7] (xv 15 86) (.done))))))))) 8 [] (xo 14 (.alloc [.nil, .nil, .nil, .nil])) (.only 1 [0] (xc1 81 173 (.t 80)) (.only 3 [1, 2, 0] (xc1 83 348 (.t 82)) (.only 4 [1, 3, 0, 2] (xc2 84 350 (.t 81) (.t 83)) (.only 5 [4, 1, 3, 0, 2] (xv 79 84) (.take 6 (xo 85 (.ext (.t 79) 0)) (.take 7 (xo 86 (.ext (.t 79) 1)) (.only 9 [0, 2, 6] ⟨none, .store 4 (.t 14) (.t 85), none⟩ (.only 10 [0, 2, 6, 7] (xv 15 86) (.done))))))))))))) (.seq (.seq (xr [xm 87 4 14, xm 88 4 6, xc2 89 176 (.t 87) (.t 88), xo 90 (.un .«not» (.t 89)), xv 91 90, xg 92 (.mv (.t 15)) 91 false, xg 93 (.mv (.t 7)) 91 false, xg 94 (.bin .neq (.t 92) (.t 93)) 91 false, xo 95 (.pick (.t 91) (.c (.bool true)) (.t 94))]) (.cond 95 (.seq (xr [xF 4]) (.ret)) (.skip))) (.seq (xr [xo 13 (.mv (xi 1))]) (.seq (xr [xm 96 4 9, xv 97 13, xc2 98 352 (.t 96) (.t 97), xv 13 98]) (.seq (.seq (xr [xv 99 13, xo 100 (.bin .lss (.t 99) (xi 0))]) (.cond 100 (.seq (xr [xF 4]) (.ret)) (.skip))) (.seq (.seq (xr [xv 101 13, xv 102 12, xo 103 (.bin .neq (.t 101) (.t 102))]) (.cond 103 (.seq (xr [xF 4]) (.ret)) (.skip))) (.seq (xr [xT 4]) (.ret)))))))))))))))))))))))))⟩
set_option maxHeartbeats 8000000 in
theorem exactCoreStep_ok (m : Machine) (x : Pick) (hm0 : LongM m) (hx : pkOk x) : CallOk Try.prog num 347 [.agg (machineC .bw m), .agg (pickC x)] [] (.bool true) := by
 refine EN m347 Try.func3 ?_
 unfold m347
 simp only [go_sem, qA, qB, qC, qD, qE, qF, qG, qH]
 repeat refine K ?_
 refine CA [] (szMachine_ok m 1048576 hm0 (by omega) (by omega)) ?_
 try simp only [go_sem, qA, qB, qC, qD, qE, qF, qG, qH]
 repeat refine K ?_
 have l2 := szL_le (k := zMachine m) (n := 1048576) (by omega)
 refine qA2 (fun hc2 => ?_) (fun hc2 => ?_)
 ·simp only [go_sem, qA, qB, qC, qD, qE, qF, qG, qH]
  repeat refine K ?_
  refine fz ?_; simp [FinS, nilL, nilV, oneOr, -List.drop_one]
 simp only [decide_eq_false_iff_not] at hc2
 have hz : zMachine m ≤ 1048576 := by have := szL_ge hc2 (by omega); omega
 have hm := smallM_of hz (by omega)
 clear hc2 hm0 l2
 have tm := toMachine_ok m hm
 have em := eqMachine_ok m m hm
 have wm := wMachine_z m
 have tk := toPick_ok x
 have cs := specCoreStep_ok m x hm hx
 have ci := implCoreStep_ok m x hm hx
 have wz := coreStep_z (m := m) (x := x)
 generalize coreStep m x = w at *
 have hw := smallM_of (m := w.1) (n := 4000000) wz (by omega)
 have ww := wMachine_z w.1
 have ew := eqMachine_ok w.1 w.1 hw
 have d1 : decide ((1 : Int) + wMachine w.1 < 0) = false := by simp; omega
 have d2 : decide ((1 : Int) + wMachine m < 0) = false := by simp; omega
 have hh := heldMachine_ok w.1 1 hw (by omega) (by omega)
 have hh0 := hh
 unfold machineMarks at hh
 simp only [go_sem, qA, qB, qC, qD, qE, qF, qG, qH]
 repeat refine K ?_
 apply hold1
 ·intro key
  repeat' (first
   | simp only [go_sem, qA, qB, qC, qD, qE, qF, qG, qH]
   | (refine DA [] tm ?_)
   | (refine DA [] tk ?_)
   | (refine DA [] cs ?_)
   | (refine K ?_)
   | (refine And.intro ?_ ?_)
   | fail)
  all_goals refine qCr (t := [(2, .ptr 10 0 0), (3, .ptr 11 0 0), (7, .int .i64 w.2), (6, .ptr 12 0 0), (29, .agg (machineC .bw m))]) (h := [(10, 4, [machineC .bw m]), (11, 2, [pickC x]), (12, 4, [machineC .own w.1])]) (nx := 13) ?_ key.h
  all_goals (
   repeat' ((first | refine F1 12 0 13 ?_ | refine F1 12 0 14 ?_ | refine F1 12 0 15 ?_ | refine F1 12 0 16 ?_ | refine F1 12 0 17 ?_ | refine F1 12 0 18 ?_ | refine F1 12 0 19 ?_ | refine F1 12 0 20 ?_ | refine F1 12 0 21 ?_ | refine F1 12 0 22 ?_ | refine F1 12 0 23 ?_ | refine F1 12 1 13 ?_ | refine F1 12 1 14 ?_ | refine F1 12 1 15 ?_ | refine F1 12 1 16 ?_ | refine F1 12 1 17 ?_ | refine F1 12 1 18 ?_ | refine F1 12 1 19 ?_ | refine F1 12 1 20 ?_ | refine F1 12 1 21 ?_ | refine F1 12 1 22 ?_ | refine F1 12 1 23 ?_ | refine F1 12 2 13 ?_ | refine F1 12 2 14 ?_ | refine F1 12 2 15 ?_ | refine F1 12 2 16 ?_ | refine F1 12 2 17 ?_ | refine F1 12 2 18 ?_ | refine F1 12 2 19 ?_ | refine F1 12 2 20 ?_ | refine F1 12 2 21 ?_ | refine F1 12 2 22 ?_ | refine F1 12 2 23 ?_ | refine F1 12 3 13 ?_ | refine F1 12 3 14 ?_ | refine F1 12 3 15 ?_ | refine F1 12 3 16 ?_ | refine F1 12 3 17 ?_ | refine F1 12 3 18 ?_ | refine F1 12 3 19 ?_ | refine F1 12 3 20 ?_ | refine F1 12 3 21 ?_ | refine F1 12 3 22 ?_ | refine F1 12 3 23 ?_ | refine F1 16 0 12 ?_ | refine F1 16 0 13 ?_ | refine F1 16 0 14 ?_ | refine F1 16 0 15 ?_ | refine F1 16 0 17 ?_ | refine F1 16 0 18 ?_ | refine F1 16 0 19 ?_ | refine F1 16 0 20 ?_ | refine F1 16 0 21 ?_ | refine F1 16 0 22 ?_ | refine F1 16 0 23 ?_ | refine F1 16 1 12 ?_ | refine F1 16 1 13 ?_ | refine F1 16 1 14 ?_ | refine F1 16 1 15 ?_ | refine F1 16 1 17 ?_ | refine F1 16 1 18 ?_ | refine F1 16 1 19 ?_ | refine F1 16 1 20 ?_ | refine F1 16 1 21 ?_ | refine F1 16 1 22 ?_ | refine F1 16 1 23 ?_ | refine F1 16 2 12 ?_ | refine F1 16 2 13 ?_ | refine F1 16 2 14 ?_ | refine F1 16 2 15 ?_ | refine F1 16 2 17 ?_ | refine F1 16 2 18 ?_ | refine F1 16 2 19 ?_ | refine F1 16 2 20 ?_ | refine F1 16 2 21 ?_ | refine F1 16 2 22 ?_ | refine F1 16 2 23 ?_ | refine F1 16 3 12 ?_ | refine F1 16 3 13 ?_ | refine F1 16 3 14 ?_ | refine F1 16 3 15 ?_ | refine F1 16 3 17 ?_ | refine F1 16 3 18 ?_ | refine F1 16 3 19 ?_ | refine F1 16 3 20 ?_ | refine F1 16 3 21 ?_ | refine F1 16 3 22 ?_ | refine F1 16 3 23 ?_ | refine F1 20 0 12 ?_ | refine F1 20 0 13 ?_ | refine F1 20 0 14 ?_ | refine F1 20 0 15 ?_ | refine F1 20 0 16 ?_ | refine F1 20 0 17 ?_ | refine F1 20 0 18 ?_ | refine F1 20 0 19 ?_ | refine F1 20 0 21 ?_ | refine F1 20 0 22 ?_ | refine F1 20 0 23 ?_ | refine F1 20 1 12 ?_ | refine F1 20 1 13 ?_ | refine F1 20 1 14 ?_ | refine F1 20 1 15 ?_ | refine F1 20 1 16 ?_ | refine F1 20 1 17 ?_ | refine F1 20 1 18 ?_ | refine F1 20 1 19 ?_ | refine F1 20 1 21 ?_ | refine F1 20 1 22 ?_ | refine F1 20 1 23 ?_ | refine F1 20 2 12 ?_ | refine F1 20 2 13 ?_ | refine F1 20 2 14 ?_ | refine F1 20 2 15 ?_ | refine F1 20 2 16 ?_ | refine F1 20 2 17 ?_ | refine F1 20 2 18 ?_ | refine F1 20 2 19 ?_ | refine F1 20 2 21 ?_ | refine F1 20 2 22 ?_ | refine F1 20 2 23 ?_ | refine F1 20 3 12 ?_ | refine F1 20 3 13 ?_ | refine F1 20 3 14 ?_ | refine F1 20 3 15 ?_ | refine F1 20 3 16 ?_ | refine F1 20 3 17 ?_ | refine F1 20 3 18 ?_ | refine F1 20 3 19 ?_ | refine F1 20 3 21 ?_ | refine F1 20 3 22 ?_ | refine F1 20 3 23 ?_ | fail); simp only [fS, fS2, fS2, qA, qC])
   first
    | (refine Sub.shape [] (fun n => if n = 12 then 12 else n) (by omega) ?_ ?_ ?_ ?_ <;> (simp [qA3]; done))
    | (refine Sub.shape [] (fun n => if n = 12 then 16 else n) (by omega) ?_ ?_ ?_ ?_ <;> (simp [qA3]; done))
    | (refine Sub.shape [] (fun n => if n = 12 then 20 else n) (by omega) ?_ ?_ ?_ ?_ <;> (simp [qA3]; done)))
 refine CA [] (tm) ?_
 try simp only [go_sem, qA, qB, qC, qD, qE, qF, qG, qH]
 repeat refine K ?_
 try simp only [go_sem, qA, qB, qC, qD, qE, qF, qG, qH]
 repeat refine K ?_
 apply hold1
 ·intro key
  repeat' (first
   | simp only [go_sem, qA, qB, qC, qD, qE, qF, qG, qH]
   | (refine DA [] tm ?_)
   | (refine DA [] tk ?_)
   | (refine DA [] ci ?_)
   | (refine K ?_)
   | (refine And.intro ?_ ?_)
   | fail)
  all_goals refine qCr (t := [(2, .ptr 10 0 0), (3, .ptr 11 0 0), (7, .int .i64 w.2), (6, .ptr 12 0 0), (8, .ptr 13 0 0), (9, .ptr 14 0 0), (10, .int .i64 w.2), (38, .agg [.ns 15 0 w.1.codes.length, .ns 16 0 w.1.cores.length, .ns 17 0 w.1.mem.cells.length, .ns 18 0 w.1.tr.length]), (39, .agg [.ns 19 0 w.1.codes.length, .ns 20 0 w.1.cores.length, .ns 21 0 w.1.mem.cells.length, .ns 22 0 w.1.tr.length])]) (h := [(10, 4, [machineC .bw m]), (11, 2, [pickC x]), (12, 4, [[.ns 19 0 w.1.codes.length, .ns 20 0 w.1.cores.length, .ns 21 0 w.1.mem.cells.length, .ns 22 0 w.1.tr.length]]), (13, 4, [machineC .own m]), (14, 4, [[.ns 15 0 w.1.codes.length, .ns 16 0 w.1.cores.length, .ns 17 0 w.1.mem.cells.length, .ns 18 0 w.1.tr.length]]), (15, 1, codes .own w.1.codes), (16, 4, cores .own w.1.cores), (17, 1, cels .own w.1.mem.cells), (18, 2, notes w.1.tr), (19, 1, codes .own w.1.codes), (20, 4, cores .own w.1.cores), (21, 1, cels .own w.1.mem.cells), (22, 2, notes w.1.tr)]) (nx := 23) ?_ key.h
  all_goals (
   refine F1 17 0 13 ?_
   simp only [fS, fS2, fS2, qA, qC]
   refine F1 17 1 14 ?_
   simp only [fS, fS2, fS2, qA, qC]
   refine F1 17 2 15 ?_
   simp only [fS, fS2, fS2, qA, qC]
   refine F1 17 3 16 ?_
   simp only [fS, fS2, fS2, qA, qC]
   first
    | (refine Sub.link (fun n => if n = 13 then 17 else if n = 14 then 22 else if n = 15 then 18 else if n = 16 then 19 else if n = 17 then 20 else if n = 18 then 21 else if n = 19 then 23 else if n = 20 then 24 else if n = 21 then 25 else if n = 22 then 26 else n) (by omega) ?_ ?_ ?_ <;> (simp [qA3, okBR, okB, okBs, renR, renL, renV]; done))
    | (refine Sub.link (fun n => if n = 13 then 17 else if n = 14 then 18 else if n = 15 then 19 else if n = 16 then 20 else if n = 17 then 21 else if n = 18 then 22 else if n = 19 then 23 else if n = 20 then 24 else if n = 21 then 25 else if n = 22 then 26 else n) (by omega) ?_ ?_ ?_ <;> (simp [qA3, okBR, okB, okBs, renR, renL, renV]; done)))
 refine CA [] (ew) ?_
 try simp only [go_sem, qA, qB, qC, qD, qE, qF, qG, qH]
 repeat refine K ?_
 try simp only [go_sem, qA, qB, qC, qD, qE, qF, qG, qH]
 repeat refine K ?_
 refine DA [] (tm) ?_
 try simp only [go_sem, qA, qB, qC, qD, qE, qF, qG, qH]
 repeat refine K ?_
 refine DA [] (em) ?_
 try simp only [go_sem, qA, qB, qC, qD, qE, qF, qG, qH]
 repeat refine K ?_
 try simp only [go_sem, qA, qB, qC, qD, qE, qF, qG, qH]
 repeat refine K ?_
 refine CA [(0, 23), (1, 24), (2, 25), (3, 26)] (markMachine_ok m 1 hm (by omega) (by omega)) ?_
 try simp only [go_sem, qA, qB, qC, qD, qE, qF, qG, qH]
 repeat refine K ?_
 try simp only [go_sem, qA, qB, qC, qD, qE, qF, qG, qH, d2]
 repeat refine K ?_
 refine CA [] (ew) ?_
 try simp only [go_sem, qA, qB, qC, qD, qE, qF, qG, qH]
 repeat refine K ?_
 try simp only [go_sem, qA, qB, qC, qD, qE, qF, qG, qH]
 repeat refine K ?_
 refine CA [(0, 15), (1, 16), (2, 17), (3, 18)] (markMachine_ok w.1 1 hw (by omega) (by omega)) ?_
 try simp only [go_sem, qA, qB, qC, qD, qE, qF, qG, qH]
 repeat refine K ?_
 try simp only [go_sem, qA, qB, qC, qD, qE, qF, qG, qH]
 repeat refine K ?_
 refine CA [] (hh) ?_
 try simp only [go_sem, qA, qB, qC, qD, qE, qF, qG, qH]
 repeat refine K ?_
 try simp only [go_sem, qA, qB, qC, qD, qE, qF, qG, qH, d1]
 repeat refine K ?_
 apply hold1
 ·intro key
  repeat' (first
   | simp only [go_sem, qA, qB, qC, qD, qE, qF, qG, qH]
   | (refine DA [] tm ?_)
   | (refine DA [] tk ?_)
   | (refine DA [] ci ?_)
   | (refine K ?_)
   | (refine And.intro ?_ ?_)
   | fail)
  all_goals refine qCr (t := [(9, .ptr 14 0 0), (12, .int .i64 (1 + wMachine w.1)), (7, .int .i64 w.2), (15, .int .i64 w.2), (87, .agg [.ns 23 0 w.1.codes.length, .ns 24 0 w.1.cores.length, .ns 25 0 w.1.mem.cells.length, .ns 26 0 w.1.tr.length]), (88, .agg [.ns 19 0 w.1.codes.length, .ns 20 0 w.1.cores.length, .ns 21 0 w.1.mem.cells.length, .ns 22 0 w.1.tr.length])]) (h := [(14, 4, [machineC .own (machineMarks 1 w.1)]), (19, 1, codes .own w.1.codes), (20, 4, cores .own w.1.cores), (21, 1, cels .own w.1.mem.cells), (22, 2, notes w.1.tr), (23, 1, codes .own w.1.codes), (24, 4, cores .own w.1.cores), (25, 1, cels .own w.1.mem.cells), (26, 2, notes w.1.tr)]) (nx := 27) ?_ key.h
  all_goals (
   refine F1 14 0 15 ?_
   simp only [fS, fS2, fS2, qA, qC, qAf]
   refine F1 14 1 16 ?_
   simp only [fS, fS2, fS2, qA, qC, qAf]
   refine F1 14 2 17 ?_
   simp only [fS, fS2, fS2, qA, qC, qAf]
   refine F1 14 3 18 ?_
   simp only [fS, fS2, fS2, qA, qC, qAf]
   simp only [machineMarks]
   first
    | (refine Sub.shape [] (fun n => if n = 23 then 35 else if n = 24 then 36 else if n = 25 then 37 else if n = 26 then 38 else n) (by omega) ?_ ?_ ?_ ?_ <;> (simp [qA3]; done))
    | (refine Sub.shape [] (fun n => if n = 23 then 36 else if n = 24 then 37 else if n = 25 then 38 else if n = 26 then 39 else n) (by omega) ?_ ?_ ?_ ?_ <;> (simp [qA3]; done)))
 refine CA [] (ew) ?_
 try simp only [go_sem, qA, qB, qC, qD, qE, qF, qG, qH]
 repeat refine K ?_
 try simp only [go_sem, qA, qB, qC, qD, qE, qF, qG, qH]
 repeat refine K ?_
 refine CA [] (hh0) ?_
 try simp only [go_sem, qA, qB, qC, qD, qE, qF, qG, qH]
 repeat refine K ?_
 try simp only [go_sem, qA, qB, qC, qD, qE, qF, qG, qH, d1]
 repeat refine K ?_
 refine fz ?_; simp [FinS, nilL, nilV, oneOr, -List.drop_one]
end Go.Sep
