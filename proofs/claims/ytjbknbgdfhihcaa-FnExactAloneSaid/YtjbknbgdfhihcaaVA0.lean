/- Contracts of functions. -/
import Derived.Test.YtjbknbgdfhihcaaVK0
import Derived.Test.YtjbknbgdfhihcaaVt0
namespace Go.Sep
open Go.Proofs
set_option linter.unusedSimpArgs false
set_option linter.unusedVariables false
set_option maxRecDepth 100000
open Nat renaming reduceAdd → qA, reduceMul → qB, reduceEqDiff → qC, reduceBEq → qD
open Int renaming reduceToNat → qE, reduceEq → qF, reduceLT → qG, reduceLE → qH
open List renaming getD_eq_getElem?_getD → gD
def m164 : MFn := ⟨27, [.t 4], .seq (xr [xF 4]) (.seq (.seq (xr [xv 6 0, xe 7 6, xv 8 1, xe 9 8, xo 10 (.bin .neq (.t 7) (.t 9))]) (.cond 10 (.seq (xr [xF 4]) (.ret)) (.skip))) (.seq (.seq (xr [xo 5 (.mv (xi 0))]) (.blk 0 (.loop (.seq (.seq (xr [xv 11 5, xv 12 0, xe 13 12, xo 14 (.bin .lss (.t 11) (.t 13))]) (.cond 14 (.skip) (.exit 0))) (.seq (.blk 1 (.seq (.dreg (.take 0 (xv 17 0) (.take 1 (xv 18 5) (.take 2 (xo 19 (.iad 1 (.t 17) (.t 18))) (.take 3 (xl 20 19) (.take 4 (xv 21 1) (.only 5 [] (xv 22 5) (.only 6 [4] (xo 23 (.iad 1 (.t 21) (.t 22))) (.only 7 [6, 4] (xl 24 23) (.only 8 [3, 7, 2, 6, 0, 1, 4] (xc2 25 210 (.t 20) (.t 24)) (.only 9 [8, 3, 7, 2, 6, 0, 1, 4] (xo 26 (.un .«not» (.t 25))) (.done)))))))))))) (.cond 26 (.seq (xr [xF 4]) (.ret)) (.skip)))) (xr [xv 15 5, xo 16 (.bin .add (.t 15) (xi 1)), xv 5 16])))))) (.seq (xr [xT 4]) (.ret))))⟩
def m165 : MFn := ⟨19, [.t 4], .seq (xr [xo 4 (.mv (xi 0))]) (.seq (.seq (xr [xo 5 (.mv (xi 0))]) (.blk 0 (.loop (.seq (.seq (xr [xv 6 5, xv 7 0, xe 8 7, xo 9 (.bin .lss (.t 6) (.t 8))]) (.cond 9 (.skip) (.exit 0))) (.seq (.blk 1 (xr [xv 12 0, xv 13 5, xo 14 (.iad 1 (.t 12) (.t 13)), xl 15 14, xv 16 1, xo 17 (.call 211 [true, false] [.t 15, .t 16]), xv 1 17])) (xr [xv 10 5, xo 11 (.bin .add (.t 10) (xi 1)), xv 5 11])))))) (.seq (xr [xv 18 1, xv 4 18]) (.ret)))⟩
def m166 : MFn := ⟨21, [.t 4], .seq (xr [xo 4 (.mv (xi 0))]) (.seq (.seq (xr [xo 5 (.mv (xi 0))]) (.blk 0 (.loop (.seq (.seq (xr [xv 6 5, xv 7 0, xe 8 7, xo 9 (.bin .lss (.t 6) (.t 8))]) (.cond 9 (.skip) (.exit 0))) (.seq (.blk 1 (.seq (xr [xv 12 0, xv 13 5, xo 14 (.iad 1 (.t 12) (.t 13)), xl 15 14, xv 16 1, xc2 17 212 (.t 15) (.t 16), xv 1 17]) (.seq (xr [xv 18 1, xo 19 (.bin .lss (.t 18) (xi 0))]) (.cond 19 (.seq (xr [xo 4 (.mv (.c (.int .i64 (-1))))]) (.ret)) (.skip))))) (xr [xv 10 5, xo 11 (.bin .add (.t 10) (xi 1)), xv 5 11])))))) (.seq (xr [xv 20 1, xv 4 20]) (.ret)))⟩
def m172 : MFn := ⟨30, [.t 4], .seq (xr [xb 2 0, xo 4 (.mv (xi 0))]) (.seq (xr [xa 5 0 2, xl 6 5, xv 7 1, xc2 8 221 (.t 6) (.t 7), xv 1 8]) (.seq (.seq (xr [xv 9 1, xo 10 (.bin .lss (.t 9) (xi 0))]) (.cond 10 (.seq (xr [xo 4 (.mv (.c (.int .i64 (-1))))]) (.ret)) (.skip))) (.seq (xr [xa 11 1 2, xl 12 11, xv 13 1, xc2 14 222 (.t 12) (.t 13), xv 1 14]) (.seq (.seq (xr [xv 15 1, xo 16 (.bin .lss (.t 15) (xi 0))]) (.cond 16 (.seq (xr [xo 4 (.mv (.c (.int .i64 (-1))))]) (.ret)) (.skip))) (.seq (xr [xa 17 2 2, xm 18 1 17, xv 19 1, xc2 20 223 (.t 18) (.t 19), xv 1 20]) (.seq (.seq (xr [xv 21 1, xo 22 (.bin .lss (.t 21) (xi 0))]) (.cond 22 (.seq (xr [xo 4 (.mv (.c (.int .i64 (-1))))]) (.ret)) (.skip))) (.seq (xr [xa 23 3 2, xl 24 23, xv 25 1, xc2 26 117 (.t 24) (.t 25), xv 1 26]) (.seq (.seq (xr [xv 27 1, xo 28 (.bin .lss (.t 27) (xi 0))]) (.cond 28 (.seq (xr [xo 4 (.mv (.c (.int .i64 (-1))))]) (.ret)) (.skip))) (.seq (xr [xv 29 1, xv 4 29]) (.ret))))))))))⟩
def m173 : MFn := ⟨21, [.cell 2 4 true], .seq (xr [xb 1 0, xo 2 (.alloc [.nil, .nil, .nil, .nil])]) (.seq (xr [xo 3 (.alloc [.nil, .nil, .nil, .nil])]) (.seq (xr [xa 4 0 1, xl 5 4, xc1 6 226 (.t 5), xa 7 0 3, ⟨none, .store 1 (.t 7) (.t 6), none⟩]) (.seq (xr [xa 8 1 1, xl 9 8, xc1 10 227 (.t 9), xa 11 1 3, ⟨none, .store 1 (.t 11) (.t 10), none⟩]) (.seq (xr [xa 12 2 1, xm 13 1 12, xc1 14 228 (.t 13), xa 15 2 3, ⟨none, .store 1 (.t 15) (.t 14), none⟩]) (.seq (xr [xa 16 3 1, xl 17 16, xc1 18 116 (.t 17), xa 19 3 3, ⟨none, .store 1 (.t 19) (.t 18), none⟩]) (.seq (xr [xm 20 4 3, ⟨none, .store 4 (.t 2) (.t 20), none⟩]) (.ret)))))))⟩
def m176 : MFn := ⟨29, [.t 4], .seq (xr [xb 2 0, xb 3 1, xF 4]) (.seq (.seq (xr [xa 5 0 2, xl 6 5, xa 7 0 3, xl 8 7, xc2 9 164 (.t 6) (.t 8), xo 10 (.un .«not» (.t 9))]) (.cond 10 (.seq (xr [xF 4]) (.ret)) (.skip))) (.seq (.seq (xr [xa 11 1 2, xl 12 11, xa 13 1 3, xl 14 13, xc2 15 231 (.t 12) (.t 14), xo 16 (.un .«not» (.t 15))]) (.cond 16 (.seq (xr [xF 4]) (.ret)) (.skip))) (.seq (.seq (xr [xa 17 2 2, xm 18 1 17, xa 19 2 3, xm 20 1 19, xc2 21 232 (.t 18) (.t 20), xo 22 (.un .«not» (.t 21))]) (.cond 22 (.seq (xr [xF 4]) (.ret)) (.skip))) (.seq (.seq (xr [xa 23 3 2, xl 24 23, xa 25 3 3, xl 26 25, xc2 27 119 (.t 24) (.t 26), xo 28 (.un .«not» (.t 27))]) (.cond 28 (.seq (xr [xF 4]) (.ret)) (.skip))) (.seq (xr [xT 4]) (.ret))))))⟩
def m210 : MFn := ⟨27, [.t 4], .seq (xr [xF 4]) (.seq (.seq (xr [xv 6 0, xe 7 6, xv 8 1, xe 9 8, xo 10 (.bin .neq (.t 7) (.t 9))]) (.cond 10 (.seq (xr [xF 4]) (.ret)) (.skip))) (.seq (.seq (xr [xo 5 (.mv (xi 0))]) (.blk 0 (.loop (.seq (.seq (xr [xv 11 5, xv 12 0, xe 13 12, xo 14 (.bin .lss (.t 11) (.t 13))]) (.cond 14 (.skip) (.exit 0))) (.seq (.blk 1 (.seq (.dreg (.take 0 (xv 17 0) (.take 1 (xv 18 5) (.take 2 (xo 19 (.iad 5 (.t 17) (.t 18))) (.take 3 (xm 20 5 19) (.take 4 (xv 21 1) (.only 5 [] (xv 22 5) (.only 6 [4] (xo 23 (.iad 5 (.t 21) (.t 22))) (.only 7 [6, 4] (xm 24 5 23) (.only 8 [3, 7, 2, 6, 0, 1, 4] (xc2 25 269 (.t 20) (.t 24)) (.only 9 [8, 3, 7, 2, 6, 0, 1, 4] (xo 26 (.un .«not» (.t 25))) (.done)))))))))))) (.cond 26 (.seq (xr [xF 4]) (.ret)) (.skip)))) (xr [xv 15 5, xo 16 (.bin .add (.t 15) (xi 1)), xv 5 16])))))) (.seq (xr [xT 4]) (.ret))))⟩
def m211 : MFn := ⟨48, [.t 4], .seq (xr [xo 4 (.mv (xi 0))]) (.seq (.seq (xr [xo 5 (.mv (xi 0))]) (.blk 0 (.loop (.seq (.seq (xr [xv 6 5, xv 7 0, xe 8 7, xo 9 (.bin .lss (.t 6) (.t 8))]) (.cond 9 (.skip) (.exit 0))) (.seq (.blk 1 (.seq (xr [xv 12 0, xv 13 5, xv 14 1, xo 15 (.iad 5 (.t 12) (.t 13)), xa 16 0 15, ⟨none, .store 1 (.t 16) (.t 14), none⟩]) (.seq (xr [xv 17 1, xo 18 (.bin .add (.t 17) (xi 1)), xv 1 18]) (.seq (xr [xv 19 0, xv 20 5, xv 21 1, xo 22 (.iad 5 (.t 19) (.t 20)), xa 23 1 22, ⟨none, .store 1 (.t 23) (.t 21), none⟩]) (.seq (xr [xv 24 1, xo 25 (.bin .add (.t 24) (xi 1)), xv 1 25]) (.seq (xr [xv 26 0, xv 27 5, xv 28 1, xo 29 (.iad 5 (.t 26) (.t 27)), xa 30 2 29, ⟨none, .store 1 (.t 30) (.t 28), none⟩]) (.seq (xr [xv 31 1, xo 32 (.bin .add (.t 31) (xi 1)), xv 1 32]) (.seq (xr [xv 33 0, xv 34 5, xv 35 1, xo 36 (.iad 5 (.t 33) (.t 34)), xa 37 3 36, ⟨none, .store 1 (.t 37) (.t 35), none⟩]) (.seq (xr [xv 38 1, xo 39 (.bin .add (.t 38) (xi 1)), xv 1 39]) (.seq (xr [xv 40 0, xv 41 5, xv 42 1, xo 43 (.iad 5 (.t 40) (.t 41)), xa 44 4 43, ⟨none, .store 1 (.t 44) (.t 42), none⟩]) (xr [xv 45 1, xo 46 (.bin .add (.t 45) (xi 1)), xv 1 46]))))))))))) (xr [xv 10 5, xo 11 (.bin .add (.t 10) (xi 1)), xv 5 11])))))) (.seq (xr [xv 47 1, xv 4 47]) (.ret)))⟩
def m212 : MFn := ⟨58, [.t 4], .seq (xr [xo 4 (.mv (xi 0))]) (.seq (.seq (xr [xo 5 (.mv (xi 0))]) (.blk 0 (.loop (.seq (.seq (xr [xv 6 5, xv 7 0, xe 8 7, xo 9 (.bin .lss (.t 6) (.t 8))]) (.cond 9 (.skip) (.exit 0))) (.seq (.blk 1 (.seq (.seq (xr [xv 12 0, xv 13 5, xo 14 (.iad 5 (.t 12) (.t 13)), xa 15 0 14, xl 16 15, xv 17 1, xo 18 (.bin .neq (.t 16) (.t 17))]) (.cond 18 (.seq (xr [xo 4 (.mv (.c (.int .i64 (-1))))]) (.ret)) (.skip))) (.seq (xr [xv 19 1, xo 20 (.bin .add (.t 19) (xi 1)), xv 1 20]) (.seq (.seq (xr [xv 21 0, xv 22 5, xo 23 (.iad 5 (.t 21) (.t 22)), xa 24 1 23, xl 25 24, xv 26 1, xo 27 (.bin .neq (.t 25) (.t 26))]) (.cond 27 (.seq (xr [xo 4 (.mv (.c (.int .i64 (-1))))]) (.ret)) (.skip))) (.seq (xr [xv 28 1, xo 29 (.bin .add (.t 28) (xi 1)), xv 1 29]) (.seq (.seq (xr [xv 30 0, xv 31 5, xo 32 (.iad 5 (.t 30) (.t 31)), xa 33 2 32, xl 34 33, xv 35 1, xo 36 (.bin .neq (.t 34) (.t 35))]) (.cond 36 (.seq (xr [xo 4 (.mv (.c (.int .i64 (-1))))]) (.ret)) (.skip))) (.seq (xr [xv 37 1, xo 38 (.bin .add (.t 37) (xi 1)), xv 1 38]) (.seq (.seq (xr [xv 39 0, xv 40 5, xo 41 (.iad 5 (.t 39) (.t 40)), xa 42 3 41, xl 43 42, xv 44 1, xo 45 (.bin .neq (.t 43) (.t 44))]) (.cond 45 (.seq (xr [xo 4 (.mv (.c (.int .i64 (-1))))]) (.ret)) (.skip))) (.seq (xr [xv 46 1, xo 47 (.bin .add (.t 46) (xi 1)), xv 1 47]) (.seq (.seq (xr [xv 48 0, xv 49 5, xo 50 (.iad 5 (.t 48) (.t 49)), xa 51 4 50, xl 52 51, xv 53 1, xo 54 (.bin .neq (.t 52) (.t 53))]) (.cond 54 (.seq (xr [xo 4 (.mv (.c (.int .i64 (-1))))]) (.ret)) (.skip))) (xr [xv 55 1, xo 56 (.bin .add (.t 55) (xi 1)), xv 1 56]))))))))))) (xr [xv 10 5, xo 11 (.bin .add (.t 10) (xi 1)), xv 5 11])))))) (.seq (xr [xv 57 1, xv 4 57]) (.ret)))⟩
def m221 : MFn := ⟨27, [.t 4], .seq (xr [xo 4 (.mv (xi 0))]) (.seq (xr [xv 6 1, xv 7 0, xe 8 7, xo 9 (.bin .sub (.t 6) (.t 8)), xv 1 9]) (.seq (.seq (xr [xv 10 1, xo 11 (.bin .lss (.t 10) (xi 0))]) (.cond 11 (.seq (xr [xo 4 (.mv (.c (.int .i64 (-1))))]) (.ret)) (.skip))) (.seq (.seq (xr [xo 5 (.mv (xi 0))]) (.blk 0 (.loop (.seq (.seq (xr [xv 12 5, xv 13 0, xe 14 13, xo 15 (.bin .lss (.t 12) (.t 14))]) (.cond 15 (.skip) (.exit 0))) (.seq (.blk 1 (.seq (xr [xv 18 0, xv 19 5, xo 20 (.iad 1 (.t 18) (.t 19)), xl 21 20, xv 22 1, xc2 23 274 (.t 21) (.t 22), xv 1 23]) (.seq (xr [xv 24 1, xo 25 (.bin .lss (.t 24) (xi 0))]) (.cond 25 (.seq (xr [xo 4 (.mv (.c (.int .i64 (-1))))]) (.ret)) (.skip))))) (xr [xv 16 5, xo 17 (.bin .add (.t 16) (xi 1)), xv 5 17])))))) (.seq (xr [xv 26 1, xv 4 26]) (.ret)))))⟩
def m222 : MFn := ⟨27, [.t 4], .seq (xr [xo 4 (.mv (xi 0))]) (.seq (xr [xv 6 1, xv 7 0, xe 8 7, xo 9 (.bin .sub (.t 6) (.t 8)), xv 1 9]) (.seq (.seq (xr [xv 10 1, xo 11 (.bin .lss (.t 10) (xi 0))]) (.cond 11 (.seq (xr [xo 4 (.mv (.c (.int .i64 (-1))))]) (.ret)) (.skip))) (.seq (.seq (xr [xo 5 (.mv (xi 0))]) (.blk 0 (.loop (.seq (.seq (xr [xv 12 5, xv 13 0, xe 14 13, xo 15 (.bin .lss (.t 12) (.t 14))]) (.cond 15 (.skip) (.exit 0))) (.seq (.blk 1 (.seq (xr [xv 18 0, xv 19 5, xo 20 (.iad 4 (.t 18) (.t 19)), xm 21 4 20, xv 22 1, xc2 23 275 (.t 21) (.t 22), xv 1 23]) (.seq (xr [xv 24 1, xo 25 (.bin .lss (.t 24) (xi 0))]) (.cond 25 (.seq (xr [xo 4 (.mv (.c (.int .i64 (-1))))]) (.ret)) (.skip))))) (xr [xv 16 5, xo 17 (.bin .add (.t 16) (xi 1)), xv 5 17])))))) (.seq (xr [xv 26 1, xv 4 26]) (.ret)))))⟩
def m223 : MFn := ⟨12, [.t 4], .seq (xr [xb 2 0, xo 4 (.mv (xi 0))]) (.seq (xr [xa 5 0 2, xl 6 5, xv 7 1, xc2 8 276 (.t 6) (.t 7), xv 1 8]) (.seq (.seq (xr [xv 9 1, xo 10 (.bin .lss (.t 9) (xi 0))]) (.cond 10 (.seq (xr [xo 4 (.mv (.c (.int .i64 (-1))))]) (.ret)) (.skip))) (.seq (xr [xv 11 1, xv 4 11]) (.ret))))⟩
def m226 : MFn := ⟨23, [.t 2], .seq (xr [xo 2 (.mv (.c (.nil)))]) (.seq (xr [xv 5 0, xe 6 5, xo 7 (.mkS [.nil] 24 (.t 6) (.t 6)), xv 3 7]) (.seq (.seq (xr [xo 4 (.mv (xi 0))]) (.blk 0 (.loop (.seq (.seq (xr [xv 8 4, xv 9 0, xe 10 9, xo 11 (.bin .lss (.t 8) (.t 10))]) (.cond 11 (.skip) (.exit 0))) (.seq (.blk 1 (xr [xv 14 3, xv 15 4, xv 16 0, xv 17 4, xo 18 (.iad 1 (.t 16) (.t 17)), xl 19 18, xc1 20 277 (.t 19), xo 21 (.iad 1 (.t 14) (.t 15)), ⟨none, .store 1 (.t 21) (.t 20), none⟩])) (xr [xv 12 4, xo 13 (.bin .add (.t 12) (xi 1)), xv 4 13])))))) (.seq (xr [xv 22 3, xv 2 22]) (.ret))))⟩
def m227 : MFn := ⟨23, [.t 2], .seq (xr [xo 2 (.mv (.c (.nil)))]) (.seq (xr [xv 5 0, xe 6 5, xo 7 (.mkS [.int .i64 0, .nil, .nil, .int .i64 0] 64 (.t 6) (.t 6)), xv 3 7]) (.seq (.seq (xr [xo 4 (.mv (xi 0))]) (.blk 0 (.loop (.seq (.seq (xr [xv 8 4, xv 9 0, xe 10 9, xo 11 (.bin .lss (.t 8) (.t 10))]) (.cond 11 (.skip) (.exit 0))) (.seq (.blk 1 (xr [xv 14 3, xv 15 4, xv 16 0, xv 17 4, xo 18 (.iad 4 (.t 16) (.t 17)), xm 19 4 18, xc1 20 278 (.t 19), xo 21 (.iad 4 (.t 14) (.t 15)), ⟨none, .store 4 (.t 21) (.t 20), none⟩])) (xr [xv 12 4, xo 13 (.bin .add (.t 12) (xi 1)), xv 4 13])))))) (.seq (xr [xv 22 3, xv 2 22]) (.ret))))⟩
def m228 : MFn := ⟨9, [.cell 2 1 true], .seq (xr [xb 1 0, xo 2 (.alloc [.nil])]) (.seq (xr [xo 3 (.alloc [.nil])]) (.seq (xr [xa 4 0 1, xl 5 4, xc1 6 279 (.t 5), xa 7 0 3, ⟨none, .store 1 (.t 7) (.t 6), none⟩]) (.seq (xr [xm 8 1 3, ⟨none, .store 1 (.t 2) (.t 8), none⟩]) (.ret))))⟩
def m231 : MFn := ⟨27, [.t 4], .seq (xr [xF 4]) (.seq (.seq (xr [xv 6 0, xe 7 6, xv 8 1, xe 9 8, xo 10 (.bin .neq (.t 7) (.t 9))]) (.cond 10 (.seq (xr [xF 4]) (.ret)) (.skip))) (.seq (.seq (xr [xo 5 (.mv (xi 0))]) (.blk 0 (.loop (.seq (.seq (xr [xv 11 5, xv 12 0, xe 13 12, xo 14 (.bin .lss (.t 11) (.t 13))]) (.cond 14 (.skip) (.exit 0))) (.seq (.blk 1 (.seq (.dreg (.take 0 (xv 17 0) (.take 1 (xv 18 5) (.take 2 (xo 19 (.iad 4 (.t 17) (.t 18))) (.take 3 (xm 20 4 19) (.take 4 (xv 21 1) (.only 5 [] (xv 22 5) (.only 6 [4] (xo 23 (.iad 4 (.t 21) (.t 22))) (.only 7 [6, 4] (xm 24 4 23) (.only 8 [3, 7, 2, 6, 0, 1, 4] (xc2 25 281 (.t 20) (.t 24)) (.only 9 [8, 3, 7, 2, 6, 0, 1, 4] (xo 26 (.un .«not» (.t 25))) (.done)))))))))))) (.cond 26 (.seq (xr [xF 4]) (.ret)) (.skip)))) (xr [xv 15 5, xo 16 (.bin .add (.t 15) (xi 1)), xv 5 16])))))) (.seq (xr [xT 4]) (.ret))))⟩
def m232 : MFn := ⟨11, [.t 4], .seq (xr [xb 2 0, xb 3 1, xF 4]) (.seq (.seq (xr [xa 5 0 2, xl 6 5, xa 7 0 3, xl 8 7, xc2 9 282 (.t 6) (.t 8), xo 10 (.un .«not» (.t 9))]) (.cond 10 (.seq (xr [xF 4]) (.ret)) (.skip))) (.seq (xr [xT 4]) (.ret)))⟩
def m269 : MFn := ⟨30, [.t 4], .seq (xr [xb 2 0, xb 3 1, xF 4]) (.seq (.seq (xr [xa 5 0 2, xl 6 5, xa 7 0 3, xl 8 7, xo 9 (.bin .neq (.t 6) (.t 8))]) (.cond 9 (.seq (xr [xF 4]) (.ret)) (.skip))) (.seq (.seq (xr [xa 10 1 2, xl 11 10, xa 12 1 3, xl 13 12, xo 14 (.bin .neq (.t 11) (.t 13))]) (.cond 14 (.seq (xr [xF 4]) (.ret)) (.skip))) (.seq (.seq (xr [xa 15 2 2, xl 16 15, xa 17 2 3, xl 18 17, xo 19 (.bin .neq (.t 16) (.t 18))]) (.cond 19 (.seq (xr [xF 4]) (.ret)) (.skip))) (.seq (.seq (xr [xa 20 3 2, xl 21 20, xa 22 3 3, xl 23 22, xo 24 (.bin .neq (.t 21) (.t 23))]) (.cond 24 (.seq (xr [xF 4]) (.ret)) (.skip))) (.seq (.seq (xr [xa 25 4 2, xl 26 25, xa 27 4 3, xl 28 27, xo 29 (.bin .neq (.t 26) (.t 28))]) (.cond 29 (.seq (xr [xF 4]) (.ret)) (.skip))) (.seq (xr [xT 4]) (.ret)))))))⟩
def m274 : MFn := ⟨12, [.t 4], .seq (xr [xo 4 (.mv (xi 0))]) (.seq (xr [xv 5 1, xv 6 0, xe 7 6, xo 8 (.bin .sub (.t 5) (.t 7)), xv 1 8]) (.seq (.seq (xr [xv 9 1, xo 10 (.bin .lss (.t 9) (xi 0))]) (.cond 10 (.seq (xr [xo 4 (.mv (.c (.int .i64 (-1))))]) (.ret)) (.skip))) (.seq (xr [xv 11 1, xv 4 11]) (.ret))))⟩
def m275 : MFn := ⟨18, [.t 4], .seq (xr [xb 2 0, xo 4 (.mv (xi 0))]) (.seq (xr [xa 5 1 2, xl 6 5, xv 7 1, xc2 8 35 (.t 6) (.t 7), xv 1 8]) (.seq (.seq (xr [xv 9 1, xo 10 (.bin .lss (.t 9) (xi 0))]) (.cond 10 (.seq (xr [xo 4 (.mv (.c (.int .i64 (-1))))]) (.ret)) (.skip))) (.seq (xr [xa 11 2 2, xl 12 11, xv 13 1, xc2 14 35 (.t 12) (.t 13), xv 1 14]) (.seq (.seq (xr [xv 15 1, xo 16 (.bin .lss (.t 15) (xi 0))]) (.cond 16 (.seq (xr [xo 4 (.mv (.c (.int .i64 (-1))))]) (.ret)) (.skip))) (.seq (xr [xv 17 1, xv 4 17]) (.ret))))))⟩
def m276 : MFn := ⟨27, [.t 4], .seq (xr [xo 4 (.mv (xi 0))]) (.seq (xr [xv 6 1, xv 7 0, xe 8 7, xo 9 (.bin .sub (.t 6) (.t 8)), xv 1 9]) (.seq (.seq (xr [xv 10 1, xo 11 (.bin .lss (.t 10) (xi 0))]) (.cond 11 (.seq (xr [xo 4 (.mv (.c (.int .i64 (-1))))]) (.ret)) (.skip))) (.seq (.seq (xr [xo 5 (.mv (xi 0))]) (.blk 0 (.loop (.seq (.seq (xr [xv 12 5, xv 13 0, xe 14 13, xo 15 (.bin .lss (.t 12) (.t 14))]) (.cond 15 (.skip) (.exit 0))) (.seq (.blk 1 (.seq (xr [xv 18 0, xv 19 5, xo 20 (.iad 1 (.t 18) (.t 19)), xl 21 20, xv 22 1, xc2 23 321 (.t 21) (.t 22), xv 1 23]) (.seq (xr [xv 24 1, xo 25 (.bin .lss (.t 24) (xi 0))]) (.cond 25 (.seq (xr [xo 4 (.mv (.c (.int .i64 (-1))))]) (.ret)) (.skip))))) (xr [xv 16 5, xo 17 (.bin .add (.t 16) (xi 1)), xv 5 17])))))) (.seq (xr [xv 26 1, xv 4 26]) (.ret)))))⟩
def m277 : MFn := ⟨23, [.t 2], .seq (xr [xo 2 (.mv (.c (.nil)))]) (.seq (xr [xv 5 0, xe 6 5, xo 7 (.mkS [xz, xz, xz, xz, xz] 40 (.t 6) (.t 6)), xv 3 7]) (.seq (.seq (xr [xo 4 (.mv (xi 0))]) (.blk 0 (.loop (.seq (.seq (xr [xv 8 4, xv 9 0, xe 10 9, xo 11 (.bin .lss (.t 8) (.t 10))]) (.cond 11 (.skip) (.exit 0))) (.seq (.blk 1 (xr [xv 14 3, xv 15 4, xv 16 0, xv 17 4, xo 18 (.iad 5 (.t 16) (.t 17)), xm 19 5 18, xc1 20 322 (.t 19), xo 21 (.iad 5 (.t 14) (.t 15)), ⟨none, .store 5 (.t 21) (.t 20), none⟩])) (xr [xv 12 4, xo 13 (.bin .add (.t 12) (xi 1)), xv 4 13])))))) (.seq (xr [xv 22 3, xv 2 22]) (.ret))))⟩
def m278 : MFn := ⟨19, [.cell 2 4 true], .seq (xr [xb 1 0, xo 2 (.alloc [.int .i64 0, .nil, .nil, .int .i64 0])]) (.seq (xr [xo 3 (.alloc [.int .i64 0, .nil, .nil, .int .i64 0])]) (.seq (xr [xa 4 0 1, xl 5 4, xa 6 0 3, ⟨none, .store 1 (.t 6) (.t 5), none⟩]) (.seq (xr [xa 7 1 1, xl 8 7, xc1 9 5 (.t 8), xa 10 1 3, ⟨none, .store 1 (.t 10) (.t 9), none⟩]) (.seq (xr [xa 11 2 1, xl 12 11, xc1 13 5 (.t 12), xa 14 2 3, ⟨none, .store 1 (.t 14) (.t 13), none⟩]) (.seq (xr [xa 15 3 1, xl 16 15, xa 17 3 3, ⟨none, .store 1 (.t 17) (.t 16), none⟩]) (.seq (xr [xm 18 4 3, ⟨none, .store 4 (.t 2) (.t 18), none⟩]) (.ret)))))))⟩
def m279 : MFn := ⟨23, [.t 2], .seq (xr [xo 2 (.mv (.c (.nil)))]) (.seq (xr [xv 5 0, xe 6 5, xo 7 (.mkS [.nil] 24 (.t 6) (.t 6)), xv 3 7]) (.seq (.seq (xr [xo 4 (.mv (xi 0))]) (.blk 0 (.loop (.seq (.seq (xr [xv 8 4, xv 9 0, xe 10 9, xo 11 (.bin .lss (.t 8) (.t 10))]) (.cond 11 (.skip) (.exit 0))) (.seq (.blk 1 (xr [xv 14 3, xv 15 4, xv 16 0, xv 17 4, xo 18 (.iad 1 (.t 16) (.t 17)), xl 19 18, xc1 20 323 (.t 19), xo 21 (.iad 1 (.t 14) (.t 15)), ⟨none, .store 1 (.t 21) (.t 20), none⟩])) (xr [xv 12 4, xo 13 (.bin .add (.t 12) (xi 1)), xv 4 13])))))) (.seq (xr [xv 22 3, xv 2 22]) (.ret))))⟩
def m281 : MFn := ⟨27, [.t 4], .seq (xr [xb 2 0, xb 3 1, xF 4]) (.seq (.seq (xr [xa 5 0 2, xl 6 5, xa 7 0 3, xl 8 7, xo 9 (.bin .neq (.t 6) (.t 8))]) (.cond 9 (.seq (xr [xF 4]) (.ret)) (.skip))) (.seq (.seq (xr [xa 10 1 2, xl 11 10, xa 12 1 3, xl 13 12, xc2 14 8 (.t 11) (.t 13), xo 15 (.un .«not» (.t 14))]) (.cond 15 (.seq (xr [xF 4]) (.ret)) (.skip))) (.seq (.seq (xr [xa 16 2 2, xl 17 16, xa 18 2 3, xl 19 18, xc2 20 8 (.t 17) (.t 19), xo 21 (.un .«not» (.t 20))]) (.cond 21 (.seq (xr [xF 4]) (.ret)) (.skip))) (.seq (.seq (xr [xa 22 3 2, xl 23 22, xa 24 3 3, xl 25 24, xo 26 (.bin .neq (.t 23) (.t 25))]) (.cond 26 (.seq (xr [xF 4]) (.ret)) (.skip))) (.seq (xr [xT 4]) (.ret))))))⟩
def m282 : MFn := ⟨27, [.t 4], .seq (xr [xF 4]) (.seq (.seq (xr [xv 6 0, xe 7 6, xv 8 1, xe 9 8, xo 10 (.bin .neq (.t 7) (.t 9))]) (.cond 10 (.seq (xr [xF 4]) (.ret)) (.skip))) (.seq (.seq (xr [xo 5 (.mv (xi 0))]) (.blk 0 (.loop (.seq (.seq (xr [xv 11 5, xv 12 0, xe 13 12, xo 14 (.bin .lss (.t 11) (.t 13))]) (.cond 14 (.skip) (.exit 0))) (.seq (.blk 1 (.seq (.dreg (.take 0 (xv 17 0) (.take 1 (xv 18 5) (.take 2 (xo 19 (.iad 1 (.t 17) (.t 18))) (.take 3 (xl 20 19) (.take 4 (xv 21 1) (.only 5 [] (xv 22 5) (.only 6 [4] (xo 23 (.iad 1 (.t 21) (.t 22))) (.only 7 [6, 4] (xl 24 23) (.only 8 [3, 7, 2, 6, 0, 1, 4] (xc2 25 324 (.t 20) (.t 24)) (.only 9 [8, 3, 7, 2, 6, 0, 1, 4] (xo 26 (.un .«not» (.t 25))) (.done)))))))))))) (.cond 26 (.seq (xr [xF 4]) (.ret)) (.skip)))) (xr [xv 15 5, xo 16 (.bin .add (.t 15) (xi 1)), xv 5 16])))))) (.seq (xr [xT 4]) (.ret))))⟩
def m321 : MFn := ⟨27, [.t 4], .seq (xr [xo 4 (.mv (xi 0))]) (.seq (xr [xv 6 1, xv 7 0, xe 8 7, xo 9 (.bin .sub (.t 6) (.t 8)), xv 1 9]) (.seq (.seq (xr [xv 10 1, xo 11 (.bin .lss (.t 10) (xi 0))]) (.cond 11 (.seq (xr [xo 4 (.mv (.c (.int .i64 (-1))))]) (.ret)) (.skip))) (.seq (.seq (xr [xo 5 (.mv (xi 0))]) (.blk 0 (.loop (.seq (.seq (xr [xv 12 5, xv 13 0, xe 14 13, xo 15 (.bin .lss (.t 12) (.t 14))]) (.cond 15 (.skip) (.exit 0))) (.seq (.blk 1 (.seq (xr [xv 18 0, xv 19 5, xo 20 (.iad 2 (.t 18) (.t 19)), xm 21 2 20, xv 22 1, xc2 23 341 (.t 21) (.t 22), xv 1 23]) (.seq (xr [xv 24 1, xo 25 (.bin .lss (.t 24) (xi 0))]) (.cond 25 (.seq (xr [xo 4 (.mv (.c (.int .i64 (-1))))]) (.ret)) (.skip))))) (xr [xv 16 5, xo 17 (.bin .add (.t 16) (xi 1)), xv 5 17])))))) (.seq (xr [xv 26 1, xv 4 26]) (.ret)))))⟩
def m322 : MFn := ⟨20, [.cell 2 5 true], .seq (xr [xb 1 0, xo 2 (.alloc [xz, xz, xz, xz, xz])]) (.seq (xr [xo 3 (.alloc [xz, xz, xz, xz, xz])]) (.seq (xr [xa 4 0 1, xl 5 4, xa 6 0 3, ⟨none, .store 1 (.t 6) (.t 5), none⟩]) (.seq (xr [xa 7 1 1, xl 8 7, xa 9 1 3, ⟨none, .store 1 (.t 9) (.t 8), none⟩]) (.seq (xr [xa 10 2 1, xl 11 10, xa 12 2 3, ⟨none, .store 1 (.t 12) (.t 11), none⟩]) (.seq (xr [xa 13 3 1, xl 14 13, xa 15 3 3, ⟨none, .store 1 (.t 15) (.t 14), none⟩]) (.seq (xr [xa 16 4 1, xl 17 16, xa 18 4 3, ⟨none, .store 1 (.t 18) (.t 17), none⟩]) (.seq (xr [xm 19 5 3, ⟨none, .store 5 (.t 2) (.t 19), none⟩]) (.ret))))))))⟩
def m323 : MFn := ⟨23, [.t 2], .seq (xr [xo 2 (.mv (.c (.nil)))]) (.seq (xr [xv 5 0, xe 6 5, xo 7 (.mkS [.int .i64 0, .nil] 32 (.t 6) (.t 6)), xv 3 7]) (.seq (.seq (xr [xo 4 (.mv (xi 0))]) (.blk 0 (.loop (.seq (.seq (xr [xv 8 4, xv 9 0, xe 10 9, xo 11 (.bin .lss (.t 8) (.t 10))]) (.cond 11 (.skip) (.exit 0))) (.seq (.blk 1 (xr [xv 14 3, xv 15 4, xv 16 0, xv 17 4, xo 18 (.iad 2 (.t 16) (.t 17)), xm 19 2 18, xc1 20 342 (.t 19), xo 21 (.iad 2 (.t 14) (.t 15)), ⟨none, .store 2 (.t 21) (.t 20), none⟩])) (xr [xv 12 4, xo 13 (.bin .add (.t 12) (xi 1)), xv 4 13])))))) (.seq (xr [xv 22 3, xv 2 22]) (.ret))))⟩
def m324 : MFn := ⟨27, [.t 4], .seq (xr [xF 4]) (.seq (.seq (xr [xv 6 0, xe 7 6, xv 8 1, xe 9 8, xo 10 (.bin .neq (.t 7) (.t 9))]) (.cond 10 (.seq (xr [xF 4]) (.ret)) (.skip))) (.seq (.seq (xr [xo 5 (.mv (xi 0))]) (.blk 0 (.loop (.seq (.seq (xr [xv 11 5, xv 12 0, xe 13 12, xo 14 (.bin .lss (.t 11) (.t 13))]) (.cond 14 (.skip) (.exit 0))) (.seq (.blk 1 (.seq (.dreg (.take 0 (xv 17 0) (.take 1 (xv 18 5) (.take 2 (xo 19 (.iad 2 (.t 17) (.t 18))) (.take 3 (xm 20 2 19) (.take 4 (xv 21 1) (.only 5 [] (xv 22 5) (.only 6 [4] (xo 23 (.iad 2 (.t 21) (.t 22))) (.only 7 [6, 4] (xm 24 2 23) (.only 8 [3, 7, 2, 6, 0, 1, 4] (xc2 25 343 (.t 20) (.t 24)) (.only 9 [8, 3, 7, 2, 6, 0, 1, 4] (xo 26 (.un .«not» (.t 25))) (.done)))))))))))) (.cond 26 (.seq (xr [xF 4]) (.ret)) (.skip)))) (xr [xv 15 5, xo 16 (.bin .add (.t 15) (xi 1)), xv 5 16])))))) (.seq (xr [xT 4]) (.ret))))⟩
def m341 : MFn := ⟨12, [.t 4], .seq (xr [xb 2 0, xo 4 (.mv (xi 0))]) (.seq (xr [xa 5 1 2, xl 6 5, xv 7 1, xc2 8 35 (.t 6) (.t 7), xv 1 8]) (.seq (.seq (xr [xv 9 1, xo 10 (.bin .lss (.t 9) (xi 0))]) (.cond 10 (.seq (xr [xo 4 (.mv (.c (.int .i64 (-1))))]) (.ret)) (.skip))) (.seq (xr [xv 11 1, xv 4 11]) (.ret))))⟩
def m342 : MFn := ⟨12, [.cell 2 2 true], .seq (xr [xb 1 0, xo 2 (.alloc [.int .i64 0, .nil])]) (.seq (xr [xo 3 (.alloc [.int .i64 0, .nil])]) (.seq (xr [xa 4 0 1, xl 5 4, xa 6 0 3, ⟨none, .store 1 (.t 6) (.t 5), none⟩]) (.seq (xr [xa 7 1 1, xl 8 7, xc1 9 5 (.t 8), xa 10 1 3, ⟨none, .store 1 (.t 10) (.t 9), none⟩]) (.seq (xr [xm 11 2 3, ⟨none, .store 2 (.t 2) (.t 11), none⟩]) (.ret)))))⟩
def m343 : MFn := ⟨16, [.t 4], .seq (xr [xb 2 0, xb 3 1, xF 4]) (.seq (.seq (xr [xa 5 0 2, xl 6 5, xa 7 0 3, xl 8 7, xo 9 (.bin .neq (.t 6) (.t 8))]) (.cond 9 (.seq (xr [xF 4]) (.ret)) (.skip))) (.seq (.seq (xr [xa 10 1 2, xl 11 10, xa 12 1 3, xl 13 12, xc2 14 8 (.t 11) (.t 13), xo 15 (.un .«not» (.t 14))]) (.cond 15 (.seq (xr [xF 4]) (.ret)) (.skip))) (.seq (xr [xT 4]) (.ret))))⟩
theorem toStep_ok (x : Step) : CallOk Try.prog num 322 [.agg (stepC x)] [] (.agg (stepC x)) := by
 refine EN m322 Try.func116 ?_
 unfold m322
 simp only [go_sem, qA, qB, qC, qD, qE, qF, qG, qH]
 repeat refine K ?_
 refine ⟨_, Sub.refl _, qB5 ?_⟩; simp [-List.drop_one]
theorem toStepS_ok (l : List Step) (hl : 64 * l.length ≤ 2 ^ 47) : CallOk Try.prog num 277 [.sl .bw 5 (steps l)] [] (.sl .own 5 (steps l)) := by
 refine EN m277 Try.func70 ?_
 unfold m277
 simp only [go_sem, qA, qB, qC, qD, qE, qF, qG, qH]
 repeat refine K ?_
 refine qA7 (ι := Nat) (fun i => .mk [(0, .sl .bw 5 (steps l)), (3, .ns 10 0 l.length), (4, .int .i64 i)] [(10, 5, steps (l.take i ++ List.replicate (l.length - i) ⟨0, 0, 0, 0, 0⟩))] 11) (fun i => i ≤ l.length) (fun i => l.length - i) 0 (by simp) ?_ ?_
 ·refine Sub.shape [] id (by omega) ?_ ?_ ?_ ?_ <;> simp [qA3]
  left
  exact steps_rep _ _ _ _ _ _
 ·intro i hi
  simp only [go_sem, qA, qB, qC, qD, qE, qF, qG, qH]
  refine qA2 (fun hc => ?_) (fun hc => ?_)
  ·simp only [decide_eq_true_eq] at hc
   have hl' : i < l.length := by omega
   have hm := fill_length l (⟨0, 0, 0, 0, 0⟩ : Step) i hi
   simp only [go_sem, qA, qB, qC, qD, qE, qF, qG, qH, qB7 l i hl', hm]
   repeat refine K ?_
   refine CA [] (toStep_ok (l.getD i default) ) ?_
   try simp only [go_sem, qA, qB, qC, qD, qE, qF, qG, qH]
   repeat refine K ?_
   have hs := fill_set l default (⟨0, 0, 0, 0, 0⟩ : Step) i hl'
   have hs' : (l.take i ++ List.replicate (l.length - i) (⟨0, 0, 0, 0, 0⟩ : Step)).set i ⟨(l.getD i default).op, (l.getD i default).r, (l.getD i default).a, (l.getD i default).b, (l.getD i default).n⟩ = l.take (i + 1) ++ List.replicate (l.length - (i + 1)) ⟨0, 0, 0, 0, 0⟩ := hs
   try simp only [go_sem, qA, qB, qC, qD, qE, qF, qG, qH, qB7 _ i (hm ▸ hl'), hm, hs', qA6 (i := i) (by omega)]
   repeat refine K ?_
   refine qA8 (i + 1) (Sub.shape [] id (by omega) ?_ ?_ ?_ ?_) ?_ ?_
   any_goals (first | omega | (simp [qA3]; done))
  ·simp only [decide_eq_false_iff_not] at hc
   have : i = l.length := by omega
   subst this
   simp only [go_sem, qA, qB, qC, qD, qE, qF, qG, qH]
   repeat refine K ?_
   refine fz ?_; simp [FinS, nilL, nilV, oneOr, -List.drop_one]
theorem szStepS_ok (xs : List Step) (n : Int) (hx : xs.length < 2 ^ 63) (h0 : 0 ≤ n) (h1 : n ≤ 2 ^ 62) : CallOk Try.prog num 274 [.sl .bw 5 (steps xs), .int .i64 n] [] (.int .i64 (szL xs.length n)) := by
 refine EN m274 Try.func59 ?_
 unfold m274
 have hw : IntKind.i64.wrap (n - xs.length) = n - xs.length := qAs (by omega) (by omega)
 simp only [go_sem, qA, qB, qC, qD, qE, qF, qG, qH, hw]
 repeat refine K ?_
 refine qA2 (fun hc => ?_) (fun hc => ?_)
 ·simp only [go_sem, qA, qB, qC, qD, qE, qF, qG, qH]
  repeat refine K ?_
  refine fz ?_; simp [FinS, nilL, nilV, oneOr, -List.drop_one]
  simp only [decide_eq_true_eq] at hc
  simp [szL, hc]
 ·simp only [go_sem, qA, qB, qC, qD, qE, qF, qG, qH]
  repeat refine K ?_
  refine fz ?_; simp [FinS, nilL, nilV, oneOr, -List.drop_one]
  simp only [decide_eq_false_iff_not] at hc
  simp [szL, hc]
theorem eqStep_ok (x y : Step) : CallOk Try.prog num 269 [.agg (stepC x), .agg (stepC y)] [] (.bool (decide (x = y))) := by
 refine EN m269 Try.func123 ?_
 unfold m269
 cases x
 cases y
 repeat' (first
  | (simp only [go_sem, qA, qB, qC, qD, qE, qF, qG, qH])
  | (refine qA2 (fun hc => ?_) (fun hc => ?_) <;> ((try simp only [Bool.not_eq_true', Bool.not_eq_false', ne_eq, Bool.not_eq_true, Bool.not_eq_false] at hc) <;> (try simp only [hc])))
  | (refine qCt (fun hc => ?_) (fun hc => ?_) <;> ((try simp only [Bool.not_eq_true', Bool.not_eq_false', ne_eq, Bool.not_eq_true, Bool.not_eq_false] at hc) <;> (try simp only [hc])))
  | (refine qCe (fun hc => ?_) (fun hc => ?_) <;> ((try simp only [Bool.not_eq_true', Bool.not_eq_false', ne_eq, Bool.not_eq_true, Bool.not_eq_false] at hc) <;> (try simp only [hc])))
  | (refine ⟨by first | omega | (simp; done), ?_⟩)
  | fail)
 all_goals (refine fz ?_; simp [FinS, nilL, nilV, oneOr, -List.drop_one])
 all_goals (try (simp_all; done))
theorem eqStepS_ok (xs ys : List Step) (hx : xs.length ≤ 2 ^ 47)  : CallOk Try.prog num 210 [.sl .bw 5 (steps xs), .sl .bw 5 (steps ys)] [] (.bool (decide (xs = ys))) := by
 refine EN m210 Try.func87 ?_
 unfold m210
 simp only [go_sem, qA, qB, qC, qD, qE, qF, qG, qH]
 repeat refine K ?_
 refine qA2 (fun hc => ?_) (fun hc => ?_)
 ·have hne : xs ≠ ys := fun he => by subst he; simp at hc
  simp only [go_sem, qA, qB, qC, qD, qE, qF, qG, qH]
  repeat refine K ?_
  refine fz ?_; simp [FinS, nilL, nilV, oneOr, -List.drop_one]
  exact hne
 ·have hl : xs.length = ys.length := by simp at hc; omega
  simp only [go_sem, qA, qB, qC, qD, qE, qF, qG, qH]
  repeat refine K ?_
  refine qA7 (ι := Nat) (fun i => .mk [(0, .sl .bw 5 (steps xs)), (1, .sl .bw 5 (steps ys)), (5, .int .i64 i)] [] 10) (fun i => i ≤ xs.length ∧ xs.take i = ys.take i) (fun i => xs.length - i) 0 (by simp) ?_ ?_
  ·refine Sub.shape [] id (by omega) ?_ ?_ ?_ ?_ <;> simp [qA3]
  ·rintro i ⟨hi, hp⟩
   simp only [go_sem, qA, qB, qC, qD, qE, qF, qG, qH]
   repeat refine K ?_
   refine qA2 (fun hc => ?_) (fun hc => ?_)
   ·simp only [decide_eq_true_eq] at hc
    have hil : i < xs.length := by omega
    have hjl : i < ys.length := by omega
    simp only [go_sem, qA, qB, qC, qD, qE, qF, qG, qH, qB7 xs i hil, qB7 ys i hjl]
    repeat refine K ?_
    refine DA [] (eqStep_ok (xs.getD i default) (ys.getD i default) ) ?_
    try simp only [go_sem, qA, qB, qC, qD, qE, qF, qG, qH]
    repeat refine K ?_
    by_cases he : xs.getD i default = ys.getD i default
    ·simp only [go_sem, qA, qB, qC, qD, qE, qF, qG, qH, he, qA6 (i := i) (by omega)]
     repeat refine K ?_
     refine qA8 (i + 1) (Sub.shape [] id (by omega) ?_ ?_ ?_ ?_) ?_ ?_
     any_goals (first | omega | (simp [qA3]; done))
     refine ⟨hil, ?_⟩
     rw [List.take_succ_eq_append_getElem hil, List.take_succ_eq_append_getElem hjl, hp]
     have he' : xs[i] = ys[i] := by simpa [List.getD_eq_getElem?_getD, hil, hjl] using he
     rw [he']
    ·simp only [go_sem, qA, qB, qC, qD, qE, qF, qG, qH, he]
     repeat refine K ?_
     refine fz ?_; simp [FinS, nilL, nilV, oneOr, -List.drop_one]
     intro h
     subst h
     exact he rfl
   ·simp only [decide_eq_false_iff_not] at hc
    have he : xs = ys := by
     have h1 : i = xs.length := by omega
     rw [h1, List.take_length, hl, List.take_length] at hp
     exact hp
    simp only [go_sem, qA, qB, qC, qD, qE, qF, qG, qH]
    repeat refine K ?_
    refine fz ?_; simp [FinS, nilL, nilV, oneOr, -List.drop_one]
    exact he
def wStep (_x : Step) : Nat := 5
def markStepF (k : Int) (_x : Step) : Step := ⟨k, k + 1, k + 1 + 1, k + 1 + 1 + 1, k + 1 + 1 + 1 + 1⟩
theorem markStepS_ok (l : List Step) (k : Int) (h0 : 0 ≤ k) (h1 : k + tots wStep l < 2 ^ 59) (h2 : l.length < 2 ^ 59) : CallOk Try.prog num 211 [.ns 0 0 l.length, .int .i64 k] [(0, some (5, steps l), some (5, steps (mks wStep markStepF k l)))] (.int .i64 (k + tots wStep l)) := by
 refine EH m211 Try.func91 ?_
 unfold m211
 simp only [go_sem, qA, qB, qC, qD, qE, qF, qG, qH]
 repeat refine K ?_
 refine qA7 (ι := Nat) (fun i => .mk [(0, .ns 0 0 l.length), (1, .int .i64 (k + tots wStep (l.take i))), (5, .int .i64 i)] [(0, 5, steps (mks wStep markStepF k (l.take i) ++ l.drop i))] 10) (fun i => i ≤ l.length) (fun i => l.length - i) 0 (by omega) ?_ ?_
 ·refine Sub.shape [] id (by omega) ?_ ?_ ?_ ?_ <;> simp [qA3]
  all_goals simp [mks, tots]
 ·intro i hi
  have hm : (mks wStep markStepF k (l.take i) ++ l.drop i).length = l.length := by simp; omega
  simp only [go_sem, qA, qB, qC, qD, qE, qF, qG, qH, hm]
  refine qA2 (fun hc => ?_) (fun hc => ?_)
  ·simp only [decide_eq_true_eq] at hc
   have hl' : i < l.length := by omega
   have ht := qBb wStep l default i hl'
   have htl := qAq wStep l (i + 1)
   have hw : wStep (l.getD i default) = 5 := rfl
   have gb : (steps (mks wStep markStepF k (l.take i) ++ l.drop i)).getD i [] = [.int .i64 (l.getD i default).op, .int .i64 (l.getD i default).r, .int .i64 (l.getD i default).a, .int .i64 (l.getD i default).b, .int .i64 (l.getD i default).n] := by
    rw [qB7 _ i (hm ▸ hl'), mks_getD _ _ default l k i hl']
   have gw : ∀ r, ((steps (mks wStep markStepF k (l.take i) ++ l.drop i)).set i r).getD i [] = r := fun r => qA5 _ _ _ _ (by rw [steps_length, hm]; exact hl')
   have gi : ∀ a0 a1 a2 a3 a4, (steps ((mks wStep markStepF k (l.take i) ++ l.drop i).set i ⟨a0, a1, a2, a3, a4⟩)).getD i [] = [.int .i64 a0, .int .i64 a1, .int .i64 a2, .int .i64 a3, .int .i64 a4] := fun a0 a1 a2 a3 a4 => by
    rw [qB7 _ i (by rw [List.length_set, hm]; exact hl'), qA5 _ _ _ _ (by rw [hm]; exact hl')]
   have q0 : IntKind.i64.wrap (k + tots wStep (l.take i) + 1) = k + tots wStep (l.take i) + 1 := qAs (by omega) (by omega)
   have q1 : IntKind.i64.wrap (k + tots wStep (l.take i) + 1 + 1) = k + tots wStep (l.take i) + 1 + 1 := qAs (by omega) (by omega)
   have q2 : IntKind.i64.wrap (k + tots wStep (l.take i) + 1 + 1 + 1) = k + tots wStep (l.take i) + 1 + 1 + 1 := qAs (by omega) (by omega)
   have q3 : IntKind.i64.wrap (k + tots wStep (l.take i) + 1 + 1 + 1 + 1) = k + tots wStep (l.take i) + 1 + 1 + 1 + 1 := qAs (by omega) (by omega)
   have q4 : IntKind.i64.wrap (k + tots wStep (l.take i) + 1 + 1 + 1 + 1 + 1) = k + (tots wStep (l.take (i + 1)) : Int) := by rw [qAs (by omega) (by omega)]; omega
   have hs := mks_set wStep markStepF default l k i hl'
   simp only [markStepF] at hs
   simp only [go_sem, qA, qB, qC, qD, qE, qF, qG, qH, gb, gw, hm, List.length_set, gi, q0, q1, q2, q3, q4, hs, qA6 (i := i) (by omega)]
   repeat refine K ?_
   refine qA8 (i + 1) (Sub.shape [] id (by omega) ?_ ?_ ?_ ?_) ?_ ?_
   any_goals (first | omega | (simp [qA3]; done))
  ·simp only [decide_eq_false_iff_not] at hc
   have he : l.take i = l := List.take_of_length_le (by omega)
   have hd : l.drop i = [] := List.drop_eq_nil_of_le (by omega)
   simp only [go_sem, qA, qB, qC, qD, qE, qF, qG, qH, he, hd]
   repeat refine K ?_
   refine fz ?_; simp [FinS, nilL, nilV, oneOr, -List.drop_one]
theorem heldStepS_ok (l : List Step) (k : Int) (h0 : 0 ≤ k) (h1 : k + tots wStep l < 2 ^ 59) (h2 : l.length < 2 ^ 59) : CallOk Try.prog num 212 [.sl .bw 5 (steps (mks wStep markStepF k l)), .int .i64 k] [] (.int .i64 (k + tots wStep l)) := by
 refine EN m212 Try.func94 ?_
 unfold m212
 simp only [go_sem, qA, qB, qC, qD, qE, qF, qG, qH, qAf]
 repeat refine K ?_
 refine qA7 (ι := Nat) (fun i => .mk [(0, .sl .bw 5 (steps (mks wStep markStepF k l))), (1, .int .i64 (k + tots wStep (l.take i))), (5, .int .i64 i)] [] 10) (fun i => i ≤ l.length) (fun i => l.length - i) 0 (by omega) ?_ ?_
 ·refine Sub.shape [] id (by omega) ?_ ?_ ?_ ?_ <;> simp [qA3]
  all_goals simp [tots]
 ·intro i hi
  simp only [go_sem, qA, qB, qC, qD, qE, qF, qG, qH, qAf]
  repeat refine K ?_
  refine qA2 (fun hc => ?_) (fun hc => ?_)
  ·simp only [decide_eq_true_eq] at hc
   have hl' : i < l.length := by omega
   have ht := qBb wStep l default i hl'
   have htl := qAq wStep l (i + 1)
   have hw : wStep (l.getD i default) = 5 := rfl
   have gb : (steps (mks wStep markStepF k l)).getD i [] = [.int .i64 (k + tots wStep (l.take i)), .int .i64 (k + tots wStep (l.take i) + 1), .int .i64 (k + tots wStep (l.take i) + 1 + 1), .int .i64 (k + tots wStep (l.take i) + 1 + 1 + 1), .int .i64 (k + tots wStep (l.take i) + 1 + 1 + 1 + 1)] := by
    rw [qB7 _ i (by rw [qAf]; exact hl'), mks_get _ _ default l k i hl']
    rfl
   have q0 : IntKind.i64.wrap (k + tots wStep (l.take i) + 1) = k + tots wStep (l.take i) + 1 := qAs (by omega) (by omega)
   have q1 : IntKind.i64.wrap (k + tots wStep (l.take i) + 1 + 1) = k + tots wStep (l.take i) + 1 + 1 := qAs (by omega) (by omega)
   have q2 : IntKind.i64.wrap (k + tots wStep (l.take i) + 1 + 1 + 1) = k + tots wStep (l.take i) + 1 + 1 + 1 := qAs (by omega) (by omega)
   have q3 : IntKind.i64.wrap (k + tots wStep (l.take i) + 1 + 1 + 1 + 1) = k + tots wStep (l.take i) + 1 + 1 + 1 + 1 := qAs (by omega) (by omega)
   have q4 : IntKind.i64.wrap (k + tots wStep (l.take i) + 1 + 1 + 1 + 1 + 1) = k + (tots wStep (l.take (i + 1)) : Int) := by rw [qAs (by omega) (by omega)]; omega
   simp only [go_sem, qA, qB, qC, qD, qE, qF, qG, qH, gb, qAf, q0, q1, q2, q3, q4, qA6 (i := i) (by omega)]
   repeat refine K ?_
   refine qA8 (i + 1) (Sub.shape [] id (by omega) ?_ ?_ ?_ ?_) ?_ ?_
   any_goals (first | omega | (simp [qA3]; done))
  ·simp only [decide_eq_false_iff_not] at hc
   have he : l.take i = l := List.take_of_length_le (by omega)
   simp only [go_sem, qA, qB, qC, qD, qE, qF, qG, qH, he]
   repeat refine K ?_
   refine fz ?_; simp [FinS, nilL, nilV, oneOr, -List.drop_one]
theorem toWrite_ok (x : Write) (h1 : 8 * x.view.length ≤ 2 ^ 47) : CallOk Try.prog num 342 [.agg (writeC .bw x)] [] (.agg (writeC .own x)) := by
 refine EN m342 Try.func141 ?_
 unfold m342
 simp only [go_sem, qA, qB, qC, qD, qE, qF, qG, qH]
 repeat refine K ?_
 refine CA [] (toIntS_ok x.view h1) ?_
 try simp only [go_sem, qA, qB, qC, qD, qE, qF, qG, qH]
 repeat refine K ?_
 refine ⟨_, Sub.refl _, qB5 ?_⟩; simp [-List.drop_one]
theorem nil_writes : ∀ (n : Nat), nilRs (List.replicate n [.int .i64 0, AV.nil]) (writes .own (List.replicate n ⟨0, []⟩))
 | 0 => by simp [writes]
 | n + 1 => by
  have := nil_writes n
  simp only [List.replicate_succ, writes, List.map_cons] at this ⊢
  exact (nilRs_cons _ _ _ _).2 ⟨by simp [writeC, ints_nil], this⟩
theorem toWriteS_ok (l : List Write) (hl : 64 * l.length ≤ 2 ^ 47) (hb1 : ∀ x ∈ l, 8 * x.view.length ≤ 2 ^ 47) : CallOk Try.prog num 323 [.sl .bw 2 (writes .bw l)] [] (.sl .own 2 (writes .own l)) := by
 refine EN m323 Try.func118 ?_
 unfold m323
 simp only [go_sem, qA, qB, qC, qD, qE, qF, qG, qH]
 repeat refine K ?_
 refine qA7 (ι := Nat) (fun i => .mk [(0, .sl .bw 2 (writes .bw l)), (3, .ns 10 0 l.length), (4, .int .i64 i)] [(10, 2, writes .own (l.take i ++ List.replicate (l.length - i) ⟨0, []⟩))] 11) (fun i => i ≤ l.length) (fun i => l.length - i) 0 (by simp) ?_ ?_
 ·refine Sub.shape [] id (by omega) ?_ ?_ ?_ ?_ <;> simp [qA3]
  right
  exact nil_writes _
 ·intro i hi
  simp only [go_sem, qA, qB, qC, qD, qE, qF, qG, qH]
  refine qA2 (fun hc => ?_) (fun hc => ?_)
  ·simp only [decide_eq_true_eq] at hc
   have hl' : i < l.length := by omega
   have hm := fill_length l (⟨0, []⟩ : Write) i hi
   simp only [go_sem, qA, qB, qC, qD, qE, qF, qG, qH, qAz .bw l i hl', hm]
   repeat refine K ?_
   refine CA [] (toWrite_ok (l.getD i default) (hb1 _ (qAd l i default hl'))) ?_
   try simp only [go_sem, qA, qB, qC, qD, qE, qF, qG, qH]
   repeat refine K ?_
   have hs := fill_set l default (⟨0, []⟩ : Write) i hl'
   try simp only [go_sem, qA, qB, qC, qD, qE, qF, qG, qH, qAz .own _ i (hm ▸ hl'), hm, qA6 (i := i) (by omega)]
   repeat refine K ?_
   refine qA8 (i + 1) ?_ hl' (by omega)
   refine Sub.trans (Sub.foldAt 10 1 11 rfl (by simp [-gD] <;> omega) rfl (by decide) (by decide) rfl (by simp <;> omega)) ?_
   simp only [fS, fS2, qA, qC, writes_set, hs]
   refine Sub.shape [] id (by omega) ?_ ?_ ?_ ?_ <;> simp [qA3]
  ·simp only [decide_eq_false_iff_not] at hc
   have : i = l.length := by omega
   subst this
   simp only [go_sem, qA, qB, qC, qD, qE, qF, qG, qH]
   repeat refine K ?_
   refine fz ?_; simp [FinS, nilL, nilV, oneOr, -List.drop_one]
theorem szWrite_ok (x : Write) (n : Int) (hx : x.view.length < 2 ^ 63) (h0 : 0 ≤ n) (h1 : n ≤ 2 ^ 61) : CallOk Try.prog num 341 [.agg (writeC .bw x), .int .i64 n] [] (.int .i64 (szL (x.view.length) n)) := by
 refine EN m341 Try.func137 ?_
 unfold m341
 simp only [go_sem, qA, qB, qC, qD, qE, qF, qG, qH]
 repeat refine K ?_
 refine CA [] (szIntS_ok x.view n hx h0 (by omega)) ?_
 try simp only [go_sem, qA, qB, qC, qD, qE, qF, qG, qH]
 repeat refine K ?_
 refine qA2 (fun hk => ?_) (fun hk => ?_)
 ·simp only [decide_eq_true_eq] at hk
  simp only [go_sem, qA, qB, qC, qD, qE, qF, qG, qH]
  repeat refine K ?_
  refine fz ?_; simp [FinS, nilL, nilV, oneOr, -List.drop_one]
  simp [szL_neg hk]
 ·simp only [decide_eq_false_iff_not] at hk
  simp only [go_sem, qA, qB, qC, qD, qE, qF, qG, qH]
  repeat refine K ?_
  refine fz ?_; simp [FinS, nilL, nilV, oneOr, -List.drop_one]
def zWrite (x : Write) : Nat := x.view.length
theorem szWriteS_ok (l : List Write) (n : Int) (hl : l.length < 2 ^ 63) (hb : ∀ x ∈ l, x.view.length < 2 ^ 63) (h0 : 0 ≤ n) (h1 : n ≤ 2 ^ 61) : CallOk Try.prog num 321 [.sl .bw 2 (writes .bw l), .int .i64 n] [] (.int .i64 (szL (l.length + tots zWrite l) n)) := by
 refine EN m321 Try.func112 ?_
 unfold m321
 have hw : IntKind.i64.wrap (n - l.length) = n - l.length := qAs (by omega) (by omega)
 simp only [go_sem, qA, qB, qC, qD, qE, qF, qG, qH, hw]
 repeat refine K ?_
 refine qA2 (fun hc => ?_) (fun hc => ?_)
 ·simp only [decide_eq_true_eq] at hc
  simp only [go_sem, qA, qB, qC, qD, qE, qF, qG, qH]
  repeat refine K ?_
  refine fz ?_; simp [FinS, nilL, nilV, oneOr, -List.drop_one]
  rw [szL_small (by push_cast; omega)]
 ·simp only [decide_eq_false_iff_not] at hc
  simp only [go_sem, qA, qB, qC, qD, qE, qF, qG, qH]
  repeat refine K ?_
  refine qA7 (ι := Nat) (fun i => .mk [(0, .sl .bw 2 (writes .bw l)), (1, .int .i64 (n - l.length - tots zWrite (l.take i))), (5, .int .i64 i)] [] 10) (fun i => i ≤ l.length ∧ (tots zWrite (l.take i) : Int) ≤ n - l.length) (fun i => l.length - i) 0 ⟨by simp, by simp [tots]; omega⟩ ?_ ?_
  ·refine Sub.shape [] id (by omega) ?_ ?_ ?_ ?_ <;> simp [qA3]
   all_goals simp [tots]
  ·rintro i ⟨hi, hs⟩
   simp only [go_sem, qA, qB, qC, qD, qE, qF, qG, qH]
   refine qA2 (fun hc2 => ?_) (fun hc2 => ?_)
   ·simp only [decide_eq_true_eq] at hc2
    have hl' : i < l.length := by omega
    have ht := qBb zWrite l default i hl'
    have hle := qAq zWrite l (i + 1)
    have hz : zWrite (l.getD i default) = (l.getD i default).view.length := rfl
    simp only [go_sem, qA, qB, qC, qD, qE, qF, qG, qH, qAz .bw l i hl']
    repeat refine K ?_
    refine CA [] (szWrite_ok (l.getD i default) (n - l.length - tots zWrite (l.take i)) (hb _ (qAd l i default hl')) (by omega) (by omega)) ?_
    try simp only [go_sem, qA, qB, qC, qD, qE, qF, qG, qH]
    repeat refine K ?_
    refine qA2 (fun hc3 => ?_) (fun hc3 => ?_)
    ·simp only [decide_eq_true_eq] at hc3
     have h3 : n - l.length - tots zWrite (l.take i) < (((l.getD i default).view.length : Nat) : Int) := by
      apply Int.lt_of_not_ge
      intro h
      rw [szL_big (by omega)] at hc3
      omega
     simp only [go_sem, qA, qB, qC, qD, qE, qF, qG, qH]
     repeat refine K ?_
     refine fz ?_; simp [FinS, nilL, nilV, oneOr, -List.drop_one]
     rw [szL_small (by push_cast; push_cast at h3; omega)]
    ·simp only [decide_eq_false_iff_not] at hc3
     have h3 := szL_nonneg hc3
     rw [h3] at hc3
     have e3 : n - l.length - (tots zWrite (l.take i) : Int) - (((l.getD i default).view.length : Nat) : Int) = n - l.length - tots zWrite (l.take (i + 1)) := by omega
     try simp only [go_sem, qA, qB, qC, qD, qE, qF, qG, qH, h3, e3, qA6 (i := i) (by omega)]
     repeat refine K ?_
     refine qA8 (i + 1) (Sub.shape [] id (by omega) ?_ ?_ ?_ ?_) ?_ ?_
     any_goals (first | omega | (simp [qA3]; done))
   ·simp only [decide_eq_false_iff_not] at hc2
    have he : l.take i = l := List.take_of_length_le (by omega)
    rw [he] at hs
    simp only [go_sem, qA, qB, qC, qD, qE, qF, qG, qH, he]
    repeat refine K ?_
    refine fz ?_; simp [FinS, nilL, nilV, oneOr, -List.drop_one]
    rw [szL_big (by push_cast; omega)]
    try (push_cast; omega)
theorem eqWrite_ok (x y : Write) (h1 : x.view.length ≤ 2 ^ 47) : CallOk Try.prog num 343 [.agg (writeC .bw x), .agg (writeC .bw y)] [] (.bool (decide (x = y))) := by
 refine EN m343 Try.func144 ?_
 unfold m343
 simp only [go_sem, qA, qB, qC, qD, qE, qF, qG, qH]
 repeat refine K ?_
 by_cases e0 : x.v = y.v
 case neg =>
  try simp only [go_sem, qA, qB, qC, qD, qE, qF, qG, qH, e0]
  repeat refine K ?_
  refine fz ?_; simp [FinS, nilL, nilV, oneOr, -List.drop_one]
  try (intro h; exact e0 (by rw [h]))
 try simp only [go_sem, qA, qB, qC, qD, qE, qF, qG, qH, e0]
 repeat refine K ?_
 refine CA [] (eqIntS_ok x.view y.view h1) ?_
 try simp only [go_sem, qA, qB, qC, qD, qE, qF, qG, qH]
 repeat refine K ?_
 by_cases e1 : x.view = y.view
 case neg =>
  try simp only [go_sem, qA, qB, qC, qD, qE, qF, qG, qH, e1]
  repeat refine K ?_
  refine fz ?_; simp [FinS, nilL, nilV, oneOr, -List.drop_one]
  try (intro h; exact e1 (by rw [h]))
 try simp only [go_sem, qA, qB, qC, qD, qE, qF, qG, qH, e1]
 repeat refine K ?_
 refine fz ?_; simp [FinS, nilL, nilV, oneOr, -List.drop_one]
 cases x
 cases y
 simp_all
theorem eqWriteS_ok (xs ys : List Write) (hx : xs.length ≤ 2 ^ 47) (hb1 : ∀ x ∈ xs, x.view.length ≤ 2 ^ 47) : CallOk Try.prog num 324 [.sl .bw 2 (writes .bw xs), .sl .bw 2 (writes .bw ys)] [] (.bool (decide (xs = ys))) := by
 refine EN m324 Try.func125 ?_
 unfold m324
 simp only [go_sem, qA, qB, qC, qD, qE, qF, qG, qH]
 repeat refine K ?_
 refine qA2 (fun hc => ?_) (fun hc => ?_)
 ·have hne : xs ≠ ys := fun he => by subst he; simp at hc
  simp only [go_sem, qA, qB, qC, qD, qE, qF, qG, qH]
  repeat refine K ?_
  refine fz ?_; simp [FinS, nilL, nilV, oneOr, -List.drop_one]
  exact hne
 ·have hl : xs.length = ys.length := by simp at hc; omega
  simp only [go_sem, qA, qB, qC, qD, qE, qF, qG, qH]
  repeat refine K ?_
  refine qA7 (ι := Nat) (fun i => .mk [(0, .sl .bw 2 (writes .bw xs)), (1, .sl .bw 2 (writes .bw ys)), (5, .int .i64 i)] [] 10) (fun i => i ≤ xs.length ∧ xs.take i = ys.take i) (fun i => xs.length - i) 0 (by simp) ?_ ?_
  ·refine Sub.shape [] id (by omega) ?_ ?_ ?_ ?_ <;> simp [qA3]
  ·rintro i ⟨hi, hp⟩
   simp only [go_sem, qA, qB, qC, qD, qE, qF, qG, qH]
   repeat refine K ?_
   refine qA2 (fun hc => ?_) (fun hc => ?_)
   ·simp only [decide_eq_true_eq] at hc
    have hil : i < xs.length := by omega
    have hjl : i < ys.length := by omega
    simp only [go_sem, qA, qB, qC, qD, qE, qF, qG, qH, qAz .bw xs i hil, qAz .bw ys i hjl]
    repeat refine K ?_
    refine DA [] (eqWrite_ok (xs.getD i default) (ys.getD i default) (hb1 _ (qAd xs i default hil))) ?_
    try simp only [go_sem, qA, qB, qC, qD, qE, qF, qG, qH]
    repeat refine K ?_
    by_cases he : xs.getD i default = ys.getD i default
    ·simp only [go_sem, qA, qB, qC, qD, qE, qF, qG, qH, he, qA6 (i := i) (by omega)]
     repeat refine K ?_
     refine qA8 (i + 1) (Sub.shape [] id (by omega) ?_ ?_ ?_ ?_) ?_ ?_
     any_goals (first | omega | (simp [qA3]; done))
     refine ⟨hil, ?_⟩
     rw [List.take_succ_eq_append_getElem hil, List.take_succ_eq_append_getElem hjl, hp]
     have he' : xs[i] = ys[i] := by simpa [List.getD_eq_getElem?_getD, hil, hjl] using he
     rw [he']
    ·simp only [go_sem, qA, qB, qC, qD, qE, qF, qG, qH, he]
     repeat refine K ?_
     refine fz ?_; simp [FinS, nilL, nilV, oneOr, -List.drop_one]
     intro h
     subst h
     exact he rfl
   ·simp only [decide_eq_false_iff_not] at hc
    have he : xs = ys := by
     have h1 : i = xs.length := by omega
     rw [h1, List.take_length, hl, List.take_length] at hp
     exact hp
    simp only [go_sem, qA, qB, qC, qD, qE, qF, qG, qH]
    repeat refine K ?_
    refine fz ?_; simp [FinS, nilL, nilV, oneOr, -List.drop_one]
    exact he
def wWrite (x : Write) : Nat := 1 + x.view.length
def markWriteF (k : Int) (x : Write) : Write := ⟨k, marks (k + 1) x.view.length⟩
theorem toCore_ok (x : Core) (h1 : 8 * x.regs.length ≤ 2 ^ 47) (h2 : 8 * x.view.length ≤ 2 ^ 47) : CallOk Try.prog num 278 [.agg (coreC .bw x)] [] (.agg (coreC .own x)) := by
 refine EN m278 Try.func71 ?_
 unfold m278
 simp only [go_sem, qA, qB, qC, qD, qE, qF, qG, qH]
 repeat refine K ?_
 refine CA [] (toIntS_ok x.regs h1) ?_
 try simp only [go_sem, qA, qB, qC, qD, qE, qF, qG, qH]
 repeat refine K ?_
 refine CA [] (toIntS_ok x.view h2) ?_
 try simp only [go_sem, qA, qB, qC, qD, qE, qF, qG, qH]
 repeat refine K ?_
 refine ⟨_, Sub.refl _, qB5 ?_⟩; simp [-List.drop_one]
theorem nil_cores : ∀ (n : Nat), nilRs (List.replicate n [.int .i64 0, AV.nil, AV.nil, .int .i64 0]) (cores .own (List.replicate n ⟨0, [], [], 0⟩))
 | 0 => by simp [cores]
 | n + 1 => by
  have := nil_cores n
  simp only [List.replicate_succ, cores, List.map_cons] at this ⊢
  exact (nilRs_cons _ _ _ _).2 ⟨by simp [coreC, ints_nil], this⟩
theorem toCoreS_ok (l : List Core) (hl : 64 * l.length ≤ 2 ^ 47) (hb1 : ∀ x ∈ l, 8 * x.regs.length ≤ 2 ^ 47) (hb2 : ∀ x ∈ l, 8 * x.view.length ≤ 2 ^ 47) : CallOk Try.prog num 227 [.sl .bw 4 (cores .bw l)] [] (.sl .own 4 (cores .own l)) := by
 refine EN m227 Try.func31 ?_
 unfold m227
 simp only [go_sem, qA, qB, qC, qD, qE, qF, qG, qH]
 repeat refine K ?_
 refine qA7 (ι := Nat) (fun i => .mk [(0, .sl .bw 4 (cores .bw l)), (3, .ns 10 0 l.length), (4, .int .i64 i)] [(10, 4, cores .own (l.take i ++ List.replicate (l.length - i) ⟨0, [], [], 0⟩))] 11) (fun i => i ≤ l.length) (fun i => l.length - i) 0 (by simp) ?_ ?_
 ·refine Sub.shape [] id (by omega) ?_ ?_ ?_ ?_ <;> simp [qA3]
  right
  exact nil_cores _
 ·intro i hi
  simp only [go_sem, qA, qB, qC, qD, qE, qF, qG, qH]
  refine qA2 (fun hc => ?_) (fun hc => ?_)
  ·simp only [decide_eq_true_eq] at hc
   have hl' : i < l.length := by omega
   have hm := fill_length l (⟨0, [], [], 0⟩ : Core) i hi
   simp only [go_sem, qA, qB, qC, qD, qE, qF, qG, qH, qAl .bw l i hl', hm]
   repeat refine K ?_
   refine CA [] (toCore_ok (l.getD i default) (hb1 _ (qAd l i default hl')) (hb2 _ (qAd l i default hl'))) ?_
   try simp only [go_sem, qA, qB, qC, qD, qE, qF, qG, qH]
   repeat refine K ?_
   have hs := fill_set l default (⟨0, [], [], 0⟩ : Core) i hl'
   try simp only [go_sem, qA, qB, qC, qD, qE, qF, qG, qH, qAl .own _ i (hm ▸ hl'), hm, qA6 (i := i) (by omega)]
   repeat refine K ?_
   refine qA8 (i + 1) ?_ hl' (by omega)
   refine Sub.trans (Sub.foldAt 10 1 11 rfl (by simp [-gD] <;> omega) rfl (by decide) (by decide) rfl (by simp <;> omega)) ?_
   simp only [fS, fS2, qA, qC, qA1, hs]
   refine Sub.trans (Sub.foldAt 10 2 12 rfl (by simp [-gD] <;> omega) rfl (by decide) (by decide) rfl (by simp <;> omega)) ?_
   simp only [fS, fS2, qA, qC, qA1, hs]
   refine Sub.shape [] id (by omega) ?_ ?_ ?_ ?_ <;> simp [qA3]
  ·simp only [decide_eq_false_iff_not] at hc
   have : i = l.length := by omega
   subst this
   simp only [go_sem, qA, qB, qC, qD, qE, qF, qG, qH]
   repeat refine K ?_
   refine fz ?_; simp [FinS, nilL, nilV, oneOr, -List.drop_one]
theorem szCore_ok (x : Core) (n : Int) (hx1 : x.regs.length < 2 ^ 63) (hx2 : x.view.length < 2 ^ 63) (h0 : 0 ≤ n) (h1 : n ≤ 2 ^ 61) : CallOk Try.prog num 275 [.agg (coreC .bw x), .int .i64 n] [] (.int .i64 (szL (x.regs.length + x.view.length) n)) := by
 rw [← szL_add _ _ _ h0]
 refine EN m275 Try.func60 ?_
 unfold m275
 simp only [go_sem, qA, qB, qC, qD, qE, qF, qG, qH]
 repeat refine K ?_
 refine CA [] (szIntS_ok x.regs n hx1 h0 (by omega)) ?_
 try simp only [go_sem, qA, qB, qC, qD, qE, qF, qG, qH]
 repeat refine K ?_
 refine qA2 (fun hk => ?_) (fun hk => ?_)
 ·simp only [decide_eq_true_eq] at hk
  rw [if_pos hk]
  simp only [go_sem, qA, qB, qC, qD, qE, qF, qG, qH]
  repeat refine K ?_
  refine fz ?_; simp [FinS, nilL, nilV, oneOr, -List.drop_one]
 ·simp only [decide_eq_false_iff_not] at hk
  have hle := szL_le (k := x.regs.length) h0
  rw [if_neg hk]
  simp only [go_sem, qA, qB, qC, qD, qE, qF, qG, qH]
  repeat refine K ?_
  refine CA [] (szIntS_ok x.view (szL x.regs.length n) hx2 (by omega) (by omega)) ?_
  try simp only [go_sem, qA, qB, qC, qD, qE, qF, qG, qH]
  repeat refine K ?_
  refine qA2 (fun hk2 => ?_) (fun hk2 => ?_)
  ·simp only [decide_eq_true_eq] at hk2
   simp only [go_sem, qA, qB, qC, qD, qE, qF, qG, qH]
   repeat refine K ?_
   refine fz ?_; simp [FinS, nilL, nilV, oneOr, -List.drop_one]
   rw [szL_neg hk2]
  ·simp only [go_sem, qA, qB, qC, qD, qE, qF, qG, qH]
   repeat refine K ?_
   refine fz ?_; simp [FinS, nilL, nilV, oneOr, -List.drop_one]
def zCore (x : Core) : Nat := x.regs.length + x.view.length
theorem szCoreS_ok (l : List Core) (n : Int) (hl : l.length < 2 ^ 63) (hb1 : ∀ x ∈ l, x.regs.length < 2 ^ 63) (hb2 : ∀ x ∈ l, x.view.length < 2 ^ 63) (h0 : 0 ≤ n) (h1 : n ≤ 2 ^ 61) : CallOk Try.prog num 222 [.sl .bw 4 (cores .bw l), .int .i64 n] [] (.int .i64 (szL (l.length + tots zCore l) n)) := by
 refine EN m222 Try.func23 ?_
 unfold m222
 have hw : IntKind.i64.wrap (n - l.length) = n - l.length := qAs (by omega) (by omega)
 simp only [go_sem, qA, qB, qC, qD, qE, qF, qG, qH, hw]
 repeat refine K ?_
 refine qA2 (fun hc => ?_) (fun hc => ?_)
 ·simp only [decide_eq_true_eq] at hc
  simp only [go_sem, qA, qB, qC, qD, qE, qF, qG, qH]
  repeat refine K ?_
  refine fz ?_; simp [FinS, nilL, nilV, oneOr, -List.drop_one]
  rw [szL_small (by push_cast; omega)]
 ·simp only [decide_eq_false_iff_not] at hc
  simp only [go_sem, qA, qB, qC, qD, qE, qF, qG, qH]
  repeat refine K ?_
  refine qA7 (ι := Nat) (fun i => .mk [(0, .sl .bw 4 (cores .bw l)), (1, .int .i64 (n - l.length - tots zCore (l.take i))), (5, .int .i64 i)] [] 10) (fun i => i ≤ l.length ∧ (tots zCore (l.take i) : Int) ≤ n - l.length) (fun i => l.length - i) 0 ⟨by simp, by simp [tots]; omega⟩ ?_ ?_
  ·refine Sub.shape [] id (by omega) ?_ ?_ ?_ ?_ <;> simp [qA3]
   all_goals simp [tots]
  ·rintro i ⟨hi, hs⟩
   simp only [go_sem, qA, qB, qC, qD, qE, qF, qG, qH]
   refine qA2 (fun hc2 => ?_) (fun hc2 => ?_)
   ·simp only [decide_eq_true_eq] at hc2
    have hl' : i < l.length := by omega
    have ht := qBb zCore l default i hl'
    have hle := qAq zCore l (i + 1)
    have hz : zCore (l.getD i default) = (l.getD i default).regs.length + (l.getD i default).view.length := rfl
    simp only [go_sem, qA, qB, qC, qD, qE, qF, qG, qH, qAl .bw l i hl']
    repeat refine K ?_
    refine CA [] (szCore_ok (l.getD i default) (n - l.length - tots zCore (l.take i)) (hb1 _ (qAd l i default hl')) (hb2 _ (qAd l i default hl')) (by omega) (by omega)) ?_
    try simp only [go_sem, qA, qB, qC, qD, qE, qF, qG, qH]
    repeat refine K ?_
    refine qA2 (fun hc3 => ?_) (fun hc3 => ?_)
    ·simp only [decide_eq_true_eq] at hc3
     have h3 : n - l.length - tots zCore (l.take i) < (((l.getD i default).regs.length + (l.getD i default).view.length : Nat) : Int) := by
      apply Int.lt_of_not_ge
      intro h
      rw [szL_big (by omega)] at hc3
      omega
     simp only [go_sem, qA, qB, qC, qD, qE, qF, qG, qH]
     repeat refine K ?_
     refine fz ?_; simp [FinS, nilL, nilV, oneOr, -List.drop_one]
     rw [szL_small (by push_cast; push_cast at h3; omega)]
    ·simp only [decide_eq_false_iff_not] at hc3
     have h3 := szL_nonneg hc3
     rw [h3] at hc3
     have e3 : n - l.length - (tots zCore (l.take i) : Int) - (((l.getD i default).regs.length + (l.getD i default).view.length : Nat) : Int) = n - l.length - tots zCore (l.take (i + 1)) := by omega
     try simp only [go_sem, qA, qB, qC, qD, qE, qF, qG, qH, h3, e3, qA6 (i := i) (by omega)]
     repeat refine K ?_
     refine qA8 (i + 1) (Sub.shape [] id (by omega) ?_ ?_ ?_ ?_) ?_ ?_
     any_goals (first | omega | (simp [qA3]; done))
   ·simp only [decide_eq_false_iff_not] at hc2
    have he : l.take i = l := List.take_of_length_le (by omega)
    rw [he] at hs
    simp only [go_sem, qA, qB, qC, qD, qE, qF, qG, qH, he]
    repeat refine K ?_
    refine fz ?_; simp [FinS, nilL, nilV, oneOr, -List.drop_one]
    rw [szL_big (by push_cast; omega)]
    try (push_cast; omega)
theorem eqCore_ok (x y : Core) (h1 : x.regs.length ≤ 2 ^ 47) (h2 : x.view.length ≤ 2 ^ 47) : CallOk Try.prog num 281 [.agg (coreC .bw x), .agg (coreC .bw y)] [] (.bool (decide (x = y))) := by
 refine EN m281 Try.func88 ?_
 unfold m281
 simp only [go_sem, qA, qB, qC, qD, qE, qF, qG, qH]
 repeat refine K ?_
 by_cases e0 : x.at_ = y.at_
 case neg =>
  try simp only [go_sem, qA, qB, qC, qD, qE, qF, qG, qH, e0]
  repeat refine K ?_
  refine fz ?_; simp [FinS, nilL, nilV, oneOr, -List.drop_one]
  try (intro h; exact e0 (by rw [h]))
 try simp only [go_sem, qA, qB, qC, qD, qE, qF, qG, qH, e0]
 repeat refine K ?_
 refine CA [] (eqIntS_ok x.regs y.regs h1) ?_
 try simp only [go_sem, qA, qB, qC, qD, qE, qF, qG, qH]
 repeat refine K ?_
 by_cases e1 : x.regs = y.regs
 case neg =>
  try simp only [go_sem, qA, qB, qC, qD, qE, qF, qG, qH, e1]
  repeat refine K ?_
  refine fz ?_; simp [FinS, nilL, nilV, oneOr, -List.drop_one]
  try (intro h; exact e1 (by rw [h]))
 try simp only [go_sem, qA, qB, qC, qD, qE, qF, qG, qH, e1]
 repeat refine K ?_
 refine CA [] (eqIntS_ok x.view y.view h2) ?_
 try simp only [go_sem, qA, qB, qC, qD, qE, qF, qG, qH]
 repeat refine K ?_
 by_cases e2 : x.view = y.view
 case neg =>
  try simp only [go_sem, qA, qB, qC, qD, qE, qF, qG, qH, e2]
  repeat refine K ?_
  refine fz ?_; simp [FinS, nilL, nilV, oneOr, -List.drop_one]
  try (intro h; exact e2 (by rw [h]))
 try simp only [go_sem, qA, qB, qC, qD, qE, qF, qG, qH, e2]
 repeat refine K ?_
 by_cases e3 : x.st = y.st
 case neg =>
  try simp only [go_sem, qA, qB, qC, qD, qE, qF, qG, qH, e3]
  repeat refine K ?_
  refine fz ?_; simp [FinS, nilL, nilV, oneOr, -List.drop_one]
  try (intro h; exact e3 (by rw [h]))
 try simp only [go_sem, qA, qB, qC, qD, qE, qF, qG, qH, e3]
 repeat refine K ?_
 refine fz ?_; simp [FinS, nilL, nilV, oneOr, -List.drop_one]
 cases x
 cases y
 simp_all
theorem eqCoreS_ok (xs ys : List Core) (hx : xs.length ≤ 2 ^ 47) (hb1 : ∀ x ∈ xs, x.regs.length ≤ 2 ^ 47) (hb2 : ∀ x ∈ xs, x.view.length ≤ 2 ^ 47) : CallOk Try.prog num 231 [.sl .bw 4 (cores .bw xs), .sl .bw 4 (cores .bw ys)] [] (.bool (decide (xs = ys))) := by
 refine EN m231 Try.func38 ?_
 unfold m231
 simp only [go_sem, qA, qB, qC, qD, qE, qF, qG, qH]
 repeat refine K ?_
 refine qA2 (fun hc => ?_) (fun hc => ?_)
 ·have hne : xs ≠ ys := fun he => by subst he; simp at hc
  simp only [go_sem, qA, qB, qC, qD, qE, qF, qG, qH]
  repeat refine K ?_
  refine fz ?_; simp [FinS, nilL, nilV, oneOr, -List.drop_one]
  exact hne
 ·have hl : xs.length = ys.length := by simp at hc; omega
  simp only [go_sem, qA, qB, qC, qD, qE, qF, qG, qH]
  repeat refine K ?_
  refine qA7 (ι := Nat) (fun i => .mk [(0, .sl .bw 4 (cores .bw xs)), (1, .sl .bw 4 (cores .bw ys)), (5, .int .i64 i)] [] 10) (fun i => i ≤ xs.length ∧ xs.take i = ys.take i) (fun i => xs.length - i) 0 (by simp) ?_ ?_
  ·refine Sub.shape [] id (by omega) ?_ ?_ ?_ ?_ <;> simp [qA3]
  ·rintro i ⟨hi, hp⟩
   simp only [go_sem, qA, qB, qC, qD, qE, qF, qG, qH]
   repeat refine K ?_
   refine qA2 (fun hc => ?_) (fun hc => ?_)
   ·simp only [decide_eq_true_eq] at hc
    have hil : i < xs.length := by omega
    have hjl : i < ys.length := by omega
    simp only [go_sem, qA, qB, qC, qD, qE, qF, qG, qH, qAl .bw xs i hil, qAl .bw ys i hjl]
    repeat refine K ?_
    refine DA [] (eqCore_ok (xs.getD i default) (ys.getD i default) (hb1 _ (qAd xs i default hil)) (hb2 _ (qAd xs i default hil))) ?_
    try simp only [go_sem, qA, qB, qC, qD, qE, qF, qG, qH]
    repeat refine K ?_
    by_cases he : xs.getD i default = ys.getD i default
    ·simp only [go_sem, qA, qB, qC, qD, qE, qF, qG, qH, he, qA6 (i := i) (by omega)]
     repeat refine K ?_
     refine qA8 (i + 1) (Sub.shape [] id (by omega) ?_ ?_ ?_ ?_) ?_ ?_
     any_goals (first | omega | (simp [qA3]; done))
     refine ⟨hil, ?_⟩
     rw [List.take_succ_eq_append_getElem hil, List.take_succ_eq_append_getElem hjl, hp]
     have he' : xs[i] = ys[i] := by simpa [List.getD_eq_getElem?_getD, hil, hjl] using he
     rw [he']
    ·simp only [go_sem, qA, qB, qC, qD, qE, qF, qG, qH, he]
     repeat refine K ?_
     refine fz ?_; simp [FinS, nilL, nilV, oneOr, -List.drop_one]
     intro h
     subst h
     exact he rfl
   ·simp only [decide_eq_false_iff_not] at hc
    have he : xs = ys := by
     have h1 : i = xs.length := by omega
     rw [h1, List.take_length, hl, List.take_length] at hp
     exact hp
    simp only [go_sem, qA, qB, qC, qD, qE, qF, qG, qH]
    repeat refine K ?_
    refine fz ?_; simp [FinS, nilL, nilV, oneOr, -List.drop_one]
    exact he
def wCore (x : Core) : Nat := 2 + x.regs.length + x.view.length
def markCoreF (k : Int) (x : Core) : Core := ⟨k, marks (k + 1) x.regs.length, marks (k + 1 + x.regs.length) x.view.length, k + 1 + x.regs.length + x.view.length⟩
def wStepS : List Step → Nat := (fun b => tots wStep b)
def markStepSF : Int → List Step → List Step := (fun k b => mks wStep markStepF k b)
def zStepS : List Step → Nat := fun (b : List Step) => b.length
theorem nil_codes : ∀ (n : Nat), nilRs (List.replicate n [AV.nil]) (codes .own (List.replicate n []))
 | 0 => by simp [codes]
 | n + 1 => by
  have := nil_codes n
  simp only [List.replicate_succ, codes, List.map_cons] at this ⊢
  exact (nilRs_cons _ _ _ _).2 ⟨by simp [steps], this⟩
theorem toStepSS_ok (l : List (List Step)) (hl : 24 * l.length ≤ 2 ^ 47) (hb : ∀ b ∈ l, 64 * b.length ≤ 2 ^ 47) : CallOk Try.prog num 226 [.sl .bw 1 (codes .bw l)] [] (.sl .own 1 (codes .own l)) := by
 refine EN m226 Try.func30 ?_
 unfold m226
 simp only [go_sem, qA, qB, qC, qD, qE, qF, qG, qH]
 repeat refine K ?_
 refine qA7 (ι := Nat) (fun i => .mk [(0, .sl .bw 1 (codes .bw l)), (3, .ns 10 0 l.length), (4, .int .i64 i)] [(10, 1, codes .own (l.take i ++ List.replicate (l.length - i) []))] 11) (fun i => i ≤ l.length) (fun i => l.length - i) 0 (by simp) ?_ ?_
 ·refine Sub.shape [] id (by omega) ?_ ?_ ?_ ?_ <;> simp [qA3]
  right
  exact nil_codes _
 ·intro i hi
  simp only [go_sem, qA, qB, qC, qD, qE, qF, qG, qH]
  refine qA2 (fun hc => ?_) (fun hc => ?_)
  ·simp only [decide_eq_true_eq] at hc
   have hl' : i < l.length := by omega
   have hm := fill_length l ([] : List Step) i hi
   simp only [go_sem, qA, qB, qC, qD, qE, qF, qG, qH, qB8 .bw l i hl', hm]
   repeat refine K ?_
   refine CA [] (toStepS_ok (l.getD i []) (by have := hb _ (qAd l i [] hl'); omega) ) ?_
   try simp only [go_sem, qA, qB, qC, qD, qE, qF, qG, qH]
   repeat refine K ?_
   have hs := fill_set l [] ([] : List Step) i hl'
   try simp only [go_sem, qA, qB, qC, qD, qE, qF, qG, qH, qB8 .own _ i (hm ▸ hl'), hm, qA6 (i := i) (by omega)]
   repeat refine K ?_
   refine qA8 (i + 1) ?_ hl' (by omega)
   refine Sub.trans (Sub.foldAt 10 0 11 rfl (by simp [-gD] <;> omega) rfl (by decide) (by decide) rfl (by simp <;> omega)) ?_
   simp only [fS, fS2, qA, qC, codes_set, hs]
   refine Sub.shape [] id (by omega) ?_ ?_ ?_ ?_ <;> simp [qA3]
  ·simp only [decide_eq_false_iff_not] at hc
   have : i = l.length := by omega
   subst this
   simp only [go_sem, qA, qB, qC, qD, qE, qF, qG, qH]
   repeat refine K ?_
   refine fz ?_; simp [FinS, nilL, nilV, oneOr, -List.drop_one]
theorem szStepSS_ok (l : List (List Step)) (n : Int) (hl : l.length < 2 ^ 63) (hb : ∀ b ∈ l, b.length < 2 ^ 63) (h0 : 0 ≤ n) (h1 : n ≤ 2 ^ 61) : CallOk Try.prog num 221 [.sl .bw 1 (codes .bw l), .int .i64 n] [] (.int .i64 (szL (l.length + tots zStepS l) n)) := by
 refine EN m221 Try.func22 ?_
 unfold m221
 have hw : IntKind.i64.wrap (n - l.length) = n - l.length := qAs (by omega) (by omega)
 simp only [go_sem, qA, qB, qC, qD, qE, qF, qG, qH, hw]
 repeat refine K ?_
 refine qA2 (fun hc => ?_) (fun hc => ?_)
 ·simp only [decide_eq_true_eq] at hc
  simp only [go_sem, qA, qB, qC, qD, qE, qF, qG, qH]
  repeat refine K ?_
  refine fz ?_; simp [FinS, nilL, nilV, oneOr, -List.drop_one]
  rw [szL_small (by push_cast; omega)]
 ·simp only [decide_eq_false_iff_not] at hc
  simp only [go_sem, qA, qB, qC, qD, qE, qF, qG, qH]
  repeat refine K ?_
  refine qA7 (ι := Nat) (fun i => .mk [(0, .sl .bw 1 (codes .bw l)), (1, .int .i64 (n - l.length - tots zStepS (l.take i))), (5, .int .i64 i)] [] 10) (fun i => i ≤ l.length ∧ (tots zStepS (l.take i) : Int) ≤ n - l.length) (fun i => l.length - i) 0 ⟨by simp, by simp [tots]; omega⟩ ?_ ?_
  ·refine Sub.shape [] id (by omega) ?_ ?_ ?_ ?_ <;> simp [qA3]
   all_goals simp [tots]
  ·rintro i ⟨hi, hs⟩
   simp only [go_sem, qA, qB, qC, qD, qE, qF, qG, qH]
   refine qA2 (fun hc2 => ?_) (fun hc2 => ?_)
   ·simp only [decide_eq_true_eq] at hc2
    have hl' : i < l.length := by omega
    have hbl := hb _ (qAd l i [] hl')
    have ht := qBb zStepS l [] i hl'
    have hle := qAq zStepS l (i + 1)
    have hz : zStepS (l.getD i []) = (l.getD i []).length := rfl
    simp only [go_sem, qA, qB, qC, qD, qE, qF, qG, qH, qB8 .bw l i hl']
    repeat refine K ?_
    refine CA [] (szStepS_ok (l.getD i []) (n - l.length - tots zStepS (l.take i)) hbl  (by omega) (by omega)) ?_
    try simp only [go_sem, qA, qB, qC, qD, qE, qF, qG, qH]
    repeat refine K ?_
    refine qA2 (fun hc3 => ?_) (fun hc3 => ?_)
    ·simp only [decide_eq_true_eq] at hc3
     have h3 : n - l.length - tots zStepS (l.take i) < (((l.getD i []).length : Nat) : Int) := by
      apply Int.lt_of_not_ge
      intro h
      rw [szL_big (by omega)] at hc3
      omega
     simp only [go_sem, qA, qB, qC, qD, qE, qF, qG, qH]
     repeat refine K ?_
     refine fz ?_; simp [FinS, nilL, nilV, oneOr, -List.drop_one]
     rw [szL_small (by push_cast; push_cast at h3; omega)]
    ·simp only [decide_eq_false_iff_not] at hc3
     have h3 := szL_nonneg hc3
     rw [h3] at hc3
     have e3 : n - l.length - (tots zStepS (l.take i) : Int) - (((l.getD i []).length : Nat) : Int) = n - l.length - tots zStepS (l.take (i + 1)) := by omega
     try simp only [go_sem, qA, qB, qC, qD, qE, qF, qG, qH, h3, e3, qA6 (i := i) (by omega)]
     repeat refine K ?_
     refine qA8 (i + 1) (Sub.shape [] id (by omega) ?_ ?_ ?_ ?_) ?_ ?_
     any_goals (first | omega | (simp [qA3]; done))
   ·simp only [decide_eq_false_iff_not] at hc2
    have he : l.take i = l := List.take_of_length_le (by omega)
    rw [he] at hs
    simp only [go_sem, qA, qB, qC, qD, qE, qF, qG, qH, he]
    repeat refine K ?_
    refine fz ?_; simp [FinS, nilL, nilV, oneOr, -List.drop_one]
    rw [szL_big (by push_cast; omega)]
    try (push_cast; omega)
theorem eqStepSS_ok (xs ys : List (List Step)) (hx : xs.length ≤ 2 ^ 47) (hb : ∀ b ∈ xs, b.length ≤ 2 ^ 47) : CallOk Try.prog num 164 [.sl .bw 1 (codes .bw xs), .sl .bw 1 (codes .bw ys)] [] (.bool (decide (xs = ys))) := by
 refine EN m164 Try.func37 ?_
 unfold m164
 simp only [go_sem, qA, qB, qC, qD, qE, qF, qG, qH]
 repeat refine K ?_
 refine qA2 (fun hc => ?_) (fun hc => ?_)
 ·have hne : xs ≠ ys := fun he => by subst he; simp at hc
  simp only [go_sem, qA, qB, qC, qD, qE, qF, qG, qH]
  repeat refine K ?_
  refine fz ?_; simp [FinS, nilL, nilV, oneOr, -List.drop_one]
  exact hne
 ·have hl : xs.length = ys.length := by simp at hc; omega
  simp only [go_sem, qA, qB, qC, qD, qE, qF, qG, qH]
  repeat refine K ?_
  refine qA7 (ι := Nat) (fun i => .mk [(0, .sl .bw 1 (codes .bw xs)), (1, .sl .bw 1 (codes .bw ys)), (5, .int .i64 i)] [] 10) (fun i => i ≤ xs.length ∧ xs.take i = ys.take i) (fun i => xs.length - i) 0 (by simp) ?_ ?_
  ·refine Sub.shape [] id (by omega) ?_ ?_ ?_ ?_ <;> simp [qA3]
  ·rintro i ⟨hi, hp⟩
   simp only [go_sem, qA, qB, qC, qD, qE, qF, qG, qH]
   repeat refine K ?_
   refine qA2 (fun hc => ?_) (fun hc => ?_)
   ·simp only [decide_eq_true_eq] at hc
    have hil : i < xs.length := by omega
    have hjl : i < ys.length := by omega
    simp only [go_sem, qA, qB, qC, qD, qE, qF, qG, qH, qB8 .bw xs i hil, qB8 .bw ys i hjl]
    repeat refine K ?_
    refine DA [] (eqStepS_ok (xs.getD i []) (ys.getD i []) (hb _ (qAd xs i [] hil)) ) ?_
    try simp only [go_sem, qA, qB, qC, qD, qE, qF, qG, qH]
    repeat refine K ?_
    by_cases he : xs.getD i [] = ys.getD i []
    ·simp only [go_sem, qA, qB, qC, qD, qE, qF, qG, qH, he, qA6 (i := i) (by omega)]
     repeat refine K ?_
     refine qA8 (i + 1) (Sub.shape [] id (by omega) ?_ ?_ ?_ ?_) ?_ ?_
     any_goals (first | omega | (simp [qA3]; done))
     refine ⟨hil, ?_⟩
     rw [List.take_succ_eq_append_getElem hil, List.take_succ_eq_append_getElem hjl, hp]
     have he' : xs[i] = ys[i] := by simpa [List.getD_eq_getElem?_getD, hil, hjl] using he
     rw [he']
    ·simp only [go_sem, qA, qB, qC, qD, qE, qF, qG, qH, he]
     repeat refine K ?_
     refine fz ?_; simp [FinS, nilL, nilV, oneOr, -List.drop_one]
     intro h
     subst h
     exact he rfl
   ·simp only [decide_eq_false_iff_not] at hc
    have he : xs = ys := by
     have h1 : i = xs.length := by omega
     rw [h1, List.take_length, hl, List.take_length] at hp
     exact hp
    simp only [go_sem, qA, qB, qC, qD, qE, qF, qG, qH]
    repeat refine K ?_
    refine fz ?_; simp [FinS, nilL, nilV, oneOr, -List.drop_one]
    exact he
theorem markStepSS_ok (l : List (List Step)) (k : Int) (h0 : 0 ≤ k) (h1 : k + tots wStepS l < 2 ^ 59) (h2 : l.length < 2 ^ 59) (hb : ∀ b ∈ l, b.length < 2 ^ 59) : CallOk Try.prog num 165 [.ns 0 0 l.length, .int .i64 k] [(0, some (1, codes .own l), some (1, codes .own (mks wStepS markStepSF k l)))] (.int .i64 (k + tots wStepS l)) := by
 refine EH m165 Try.func41 ?_
 unfold m165
 simp only [go_sem, qA, qB, qC, qD, qE, qF, qG, qH]
 repeat refine K ?_
 refine qA7 (ι := Nat) (fun i => .mk [(0, .ns 0 0 l.length), (1, .int .i64 (k + tots wStepS (l.take i))), (5, .int .i64 i)] [(0, 1, codes .own ((mks wStepS markStepSF k (l.take i)) ++ l.drop i))] 10) (fun i => i ≤ l.length) (fun i => l.length - i) 0 (by omega) ?_ ?_
 ·refine Sub.shape [] id (by omega) ?_ ?_ ?_ ?_ <;> simp [qA3]
  all_goals simp [mks, tots]
 ·intro i hi
  have hm : ((mks wStepS markStepSF k (l.take i)) ++ l.drop i).length = l.length := by simp; omega
  simp only [go_sem, qA, qB, qC, qD, qE, qF, qG, qH, hm]
  refine qA2 (fun hc => ?_) (fun hc => ?_)
  ·simp only [decide_eq_true_eq] at hc
   have hl' : i < l.length := by omega
   have ht := qBb wStepS l [] i hl'
   have htl := qAq wStepS l (i + 1)
   have hw : wStepS (l.getD i []) = tots wStep (l.getD i []) := rfl
   have gb : (codes .own ((mks wStepS markStepSF k (l.take i)) ++ l.drop i)).getD i [] = [.sl .own 5 (steps (l.getD i []))] := by
    rw [qB8 .own _ i (hm ▸ hl'), mks_getD _ _ [] l k i hl']
   have hs := mks_set wStepS markStepSF [] l k i hl'
   have hsf : markStepSF (k + tots wStepS (l.take i)) (l.getD i []) = mks wStep markStepF (k + tots wStepS (l.take i)) (l.getD i []) := rfl
   rw [hsf] at hs
   simp only [go_sem, qA, qB, qC, qD, qE, qF, qG, qH, gb, hm, qA6 (i := i) (by omega)]
   repeat refine K ?_
   refine CA [(0, 10)] (markStepS_ok (l.getD i []) (k + tots wStepS (l.take i)) (by omega) (by omega) (by have := hb _ (qAd l i [] hl'); omega)) ?_
   try simp only [go_sem, qA, qB, qC, qD, qE, qF, qG, qH]
   repeat refine K ?_
   have e5 : k + (tots wStepS (l.take i) : Int) + ((tots wStep (l.getD i []) : Nat) : Int) = k + (tots wStepS (l.take (i + 1)) : Int) := by omega
   try simp only [go_sem, qA, qB, qC, qD, qE, qF, qG, qH, e5, hm, qA6 (i := i) (by omega)]
   repeat refine K ?_
   refine qA8 (i + 1) ?_ hl' (by omega)
   refine Sub.trans (Sub.foldAt 0 0 10 rfl (by simp [-gD] <;> omega) rfl (by decide) (by decide) rfl (by simp <;> omega)) ?_
   simp only [fS, fS2, qA, qC, codes_set, qAf, hs]
   refine Sub.shape [] id (by omega) ?_ ?_ ?_ ?_ <;> simp [qA3]
  ·simp only [decide_eq_false_iff_not] at hc
   have he : l.take i = l := List.take_of_length_le (by omega)
   have hd : l.drop i = [] := List.drop_eq_nil_of_le (by omega)
   simp only [go_sem, qA, qB, qC, qD, qE, qF, qG, qH, he, hd]
   repeat refine K ?_
   refine fz ?_; simp [FinS, nilL, nilV, oneOr, -List.drop_one]
theorem heldStepSS_ok (l : List (List Step)) (k : Int) (h0 : 0 ≤ k) (h1 : k + tots wStepS l < 2 ^ 59) (h2 : l.length < 2 ^ 59) (hb : ∀ b ∈ l, b.length < 2 ^ 59) : CallOk Try.prog num 166 [.sl .bw 1 (codes .bw (mks wStepS markStepSF k l)), .int .i64 k] [] (.int .i64 (k + tots wStepS l)) := by
 refine EN m166 Try.func45 ?_
 unfold m166
 simp only [go_sem, qA, qB, qC, qD, qE, qF, qG, qH, qAf]
 repeat refine K ?_
 refine qA7 (ι := Nat) (fun i => .mk [(0, .sl .bw 1 (codes .bw (mks wStepS markStepSF k l))), (1, .int .i64 (k + tots wStepS (l.take i))), (5, .int .i64 i)] [] 10) (fun i => i ≤ l.length) (fun i => l.length - i) 0 (by omega) ?_ ?_
 ·refine Sub.shape [] id (by omega) ?_ ?_ ?_ ?_ <;> simp [qA3]
  all_goals simp [tots]
 ·intro i hi
  simp only [go_sem, qA, qB, qC, qD, qE, qF, qG, qH, qAf]
  repeat refine K ?_
  refine qA2 (fun hc => ?_) (fun hc => ?_)
  ·simp only [decide_eq_true_eq] at hc
   have hl' : i < l.length := by omega
   have ht := qBb wStepS l [] i hl'
   have htl := qAq wStepS l (i + 1)
   have hw : wStepS (l.getD i []) = tots wStep (l.getD i []) := rfl
   have gb : (codes .bw (mks wStepS markStepSF k l)).getD i [] = [.sl .bw 5 (steps (mks wStep markStepF (k + tots wStepS (l.take i)) (l.getD i [])))] := by
    rw [qB8 .bw _ i (by rw [qAf]; exact hl'), mks_get _ _ [] l k i hl']
    rfl
   have e5 : k + (tots wStepS (l.take i) : Int) + ((tots wStep (l.getD i []) : Nat) : Int) = k + (tots wStepS (l.take (i + 1)) : Int) := by omega
   have d5 : decide (k + (tots wStepS (l.take (i + 1)) : Int) < 0) = false := by simp; omega
   simp only [go_sem, qA, qB, qC, qD, qE, qF, qG, qH, gb, qAf]
   repeat refine K ?_
   refine CA [] (heldStepS_ok (l.getD i []) (k + tots wStepS (l.take i)) (by omega) (by omega) (by have := hb _ (qAd l i [] hl'); omega)) ?_
   try simp only [go_sem, qA, qB, qC, qD, qE, qF, qG, qH]
   repeat refine K ?_
   try simp only [go_sem, qA, qB, qC, qD, qE, qF, qG, qH, e5, d5, qAf, qA6 (i := i) (by omega)]
   repeat refine K ?_
   refine qA8 (i + 1) (Sub.shape [] id (by omega) ?_ ?_ ?_ ?_) ?_ ?_
   any_goals (first | omega | (simp [qA3]; done))
  ·simp only [decide_eq_false_iff_not] at hc
   have he : l.take i = l := List.take_of_length_le (by omega)
   simp only [go_sem, qA, qB, qC, qD, qE, qF, qG, qH, he]
   repeat refine K ?_
   refine fz ?_; simp [FinS, nilL, nilV, oneOr, -List.drop_one]
def wWriteS : List Write → Nat := (fun b => tots wWrite b)
def markWriteSF : Int → List Write → List Write := (fun k b => mks wWrite markWriteF k b)
def zWriteS : List Write → Nat := fun (b : List Write) => b.length + tots zWrite b
theorem nil_cels : ∀ (n : Nat), nilRs (List.replicate n [AV.nil]) (cels .own (List.replicate n []))
 | 0 => by simp [cels]
 | n + 1 => by
  have := nil_cels n
  simp only [List.replicate_succ, cels, List.map_cons] at this ⊢
  exact (nilRs_cons _ _ _ _).2 ⟨by simp [writes], this⟩
theorem toWriteSS_ok (l : List (List Write)) (hl : 24 * l.length ≤ 2 ^ 47) (hb : ∀ b ∈ l, 64 * b.length ≤ 2 ^ 47) (hc0 : ∀ b ∈ l, ∀ x ∈ b, 8 * x.view.length ≤ 2 ^ 47) : CallOk Try.prog num 279 [.sl .bw 1 (cels .bw l)] [] (.sl .own 1 (cels .own l)) := by
 refine EN m279 Try.func72 ?_
 unfold m279
 simp only [go_sem, qA, qB, qC, qD, qE, qF, qG, qH]
 repeat refine K ?_
 refine qA7 (ι := Nat) (fun i => .mk [(0, .sl .bw 1 (cels .bw l)), (3, .ns 10 0 l.length), (4, .int .i64 i)] [(10, 1, cels .own (l.take i ++ List.replicate (l.length - i) []))] 11) (fun i => i ≤ l.length) (fun i => l.length - i) 0 (by simp) ?_ ?_
 ·refine Sub.shape [] id (by omega) ?_ ?_ ?_ ?_ <;> simp [qA3]
  right
  exact nil_cels _
 ·intro i hi
  simp only [go_sem, qA, qB, qC, qD, qE, qF, qG, qH]
  refine qA2 (fun hc => ?_) (fun hc => ?_)
  ·simp only [decide_eq_true_eq] at hc
   have hl' : i < l.length := by omega
   have hm := fill_length l ([] : List Write) i hi
   simp only [go_sem, qA, qB, qC, qD, qE, qF, qG, qH, qAi .bw l i hl', hm]
   repeat refine K ?_
   refine CA [] (toWriteS_ok (l.getD i []) (by have := hb _ (qAd l i [] hl'); omega) (hc0 _ (qAd l i [] hl'))) ?_
   try simp only [go_sem, qA, qB, qC, qD, qE, qF, qG, qH]
   repeat refine K ?_
   have hs := fill_set l [] ([] : List Write) i hl'
   try simp only [go_sem, qA, qB, qC, qD, qE, qF, qG, qH, qAi .own _ i (hm ▸ hl'), hm, qA6 (i := i) (by omega)]
   repeat refine K ?_
   refine qA8 (i + 1) ?_ hl' (by omega)
   refine Sub.trans (Sub.foldAt 10 0 11 rfl (by simp [-gD] <;> omega) rfl (by decide) (by decide) rfl (by simp <;> omega)) ?_
   simp only [fS, fS2, qA, qC, qAp, hs]
   refine Sub.shape [] id (by omega) ?_ ?_ ?_ ?_ <;> simp [qA3]
  ·simp only [decide_eq_false_iff_not] at hc
   have : i = l.length := by omega
   subst this
   simp only [go_sem, qA, qB, qC, qD, qE, qF, qG, qH]
   repeat refine K ?_
   refine fz ?_; simp [FinS, nilL, nilV, oneOr, -List.drop_one]
theorem szWriteSS_ok (l : List (List Write)) (n : Int) (hl : l.length < 2 ^ 63) (hb : ∀ b ∈ l, b.length < 2 ^ 63) (hc0 : ∀ b ∈ l, ∀ x ∈ b, x.view.length < 2 ^ 63) (h0 : 0 ≤ n) (h1 : n ≤ 2 ^ 61) : CallOk Try.prog num 276 [.sl .bw 1 (cels .bw l), .int .i64 n] [] (.int .i64 (szL (l.length + tots zWriteS l) n)) := by
 refine EN m276 Try.func61 ?_
 unfold m276
 have hw : IntKind.i64.wrap (n - l.length) = n - l.length := qAs (by omega) (by omega)
 simp only [go_sem, qA, qB, qC, qD, qE, qF, qG, qH, hw]
 repeat refine K ?_
 refine qA2 (fun hc => ?_) (fun hc => ?_)
 ·simp only [decide_eq_true_eq] at hc
  simp only [go_sem, qA, qB, qC, qD, qE, qF, qG, qH]
  repeat refine K ?_
  refine fz ?_; simp [FinS, nilL, nilV, oneOr, -List.drop_one]
  rw [szL_small (by push_cast; omega)]
 ·simp only [decide_eq_false_iff_not] at hc
  simp only [go_sem, qA, qB, qC, qD, qE, qF, qG, qH]
  repeat refine K ?_
  refine qA7 (ι := Nat) (fun i => .mk [(0, .sl .bw 1 (cels .bw l)), (1, .int .i64 (n - l.length - tots zWriteS (l.take i))), (5, .int .i64 i)] [] 10) (fun i => i ≤ l.length ∧ (tots zWriteS (l.take i) : Int) ≤ n - l.length) (fun i => l.length - i) 0 ⟨by simp, by simp [tots]; omega⟩ ?_ ?_
  ·refine Sub.shape [] id (by omega) ?_ ?_ ?_ ?_ <;> simp [qA3]
   all_goals simp [tots]
  ·rintro i ⟨hi, hs⟩
   simp only [go_sem, qA, qB, qC, qD, qE, qF, qG, qH]
   refine qA2 (fun hc2 => ?_) (fun hc2 => ?_)
   ·simp only [decide_eq_true_eq] at hc2
    have hl' : i < l.length := by omega
    have hbl := hb _ (qAd l i [] hl')
    have ht := qBb zWriteS l [] i hl'
    have hle := qAq zWriteS l (i + 1)
    have hz : zWriteS (l.getD i []) = (l.getD i []).length + tots zWrite (l.getD i []) := rfl
    simp only [go_sem, qA, qB, qC, qD, qE, qF, qG, qH, qAi .bw l i hl']
    repeat refine K ?_
    refine CA [] (szWriteS_ok (l.getD i []) (n - l.length - tots zWriteS (l.take i)) hbl (hc0 _ (qAd l i [] hl')) (by omega) (by omega)) ?_
    try simp only [go_sem, qA, qB, qC, qD, qE, qF, qG, qH]
    repeat refine K ?_
    refine qA2 (fun hc3 => ?_) (fun hc3 => ?_)
    ·simp only [decide_eq_true_eq] at hc3
     have h3 : n - l.length - tots zWriteS (l.take i) < (((l.getD i []).length + tots zWrite (l.getD i []) : Nat) : Int) := by
      apply Int.lt_of_not_ge
      intro h
      rw [szL_big (by omega)] at hc3
      omega
     simp only [go_sem, qA, qB, qC, qD, qE, qF, qG, qH]
     repeat refine K ?_
     refine fz ?_; simp [FinS, nilL, nilV, oneOr, -List.drop_one]
     rw [szL_small (by push_cast; push_cast at h3; omega)]
    ·simp only [decide_eq_false_iff_not] at hc3
     have h3 := szL_nonneg hc3
     rw [h3] at hc3
     have e3 : n - l.length - (tots zWriteS (l.take i) : Int) - (((l.getD i []).length + tots zWrite (l.getD i []) : Nat) : Int) = n - l.length - tots zWriteS (l.take (i + 1)) := by omega
     try simp only [go_sem, qA, qB, qC, qD, qE, qF, qG, qH, h3, e3, qA6 (i := i) (by omega)]
     repeat refine K ?_
     refine qA8 (i + 1) (Sub.shape [] id (by omega) ?_ ?_ ?_ ?_) ?_ ?_
     any_goals (first | omega | (simp [qA3]; done))
   ·simp only [decide_eq_false_iff_not] at hc2
    have he : l.take i = l := List.take_of_length_le (by omega)
    rw [he] at hs
    simp only [go_sem, qA, qB, qC, qD, qE, qF, qG, qH, he]
    repeat refine K ?_
    refine fz ?_; simp [FinS, nilL, nilV, oneOr, -List.drop_one]
    rw [szL_big (by push_cast; omega)]
    try (push_cast; omega)
theorem eqWriteSS_ok (xs ys : List (List Write)) (hx : xs.length ≤ 2 ^ 47) (hb : ∀ b ∈ xs, b.length ≤ 2 ^ 47) (hc0 : ∀ b ∈ xs, ∀ x ∈ b, x.view.length ≤ 2 ^ 47) : CallOk Try.prog num 282 [.sl .bw 1 (cels .bw xs), .sl .bw 1 (cels .bw ys)] [] (.bool (decide (xs = ys))) := by
 refine EN m282 Try.func89 ?_
 unfold m282
 simp only [go_sem, qA, qB, qC, qD, qE, qF, qG, qH]
 repeat refine K ?_
 refine qA2 (fun hc => ?_) (fun hc => ?_)
 ·have hne : xs ≠ ys := fun he => by subst he; simp at hc
  simp only [go_sem, qA, qB, qC, qD, qE, qF, qG, qH]
  repeat refine K ?_
  refine fz ?_; simp [FinS, nilL, nilV, oneOr, -List.drop_one]
  exact hne
 ·have hl : xs.length = ys.length := by simp at hc; omega
  simp only [go_sem, qA, qB, qC, qD, qE, qF, qG, qH]
  repeat refine K ?_
  refine qA7 (ι := Nat) (fun i => .mk [(0, .sl .bw 1 (cels .bw xs)), (1, .sl .bw 1 (cels .bw ys)), (5, .int .i64 i)] [] 10) (fun i => i ≤ xs.length ∧ xs.take i = ys.take i) (fun i => xs.length - i) 0 (by simp) ?_ ?_
  ·refine Sub.shape [] id (by omega) ?_ ?_ ?_ ?_ <;> simp [qA3]
  ·rintro i ⟨hi, hp⟩
   simp only [go_sem, qA, qB, qC, qD, qE, qF, qG, qH]
   repeat refine K ?_
   refine qA2 (fun hc => ?_) (fun hc => ?_)
   ·simp only [decide_eq_true_eq] at hc
    have hil : i < xs.length := by omega
    have hjl : i < ys.length := by omega
    simp only [go_sem, qA, qB, qC, qD, qE, qF, qG, qH, qAi .bw xs i hil, qAi .bw ys i hjl]
    repeat refine K ?_
    refine DA [] (eqWriteS_ok (xs.getD i []) (ys.getD i []) (hb _ (qAd xs i [] hil)) (hc0 _ (qAd xs i [] hil))) ?_
    try simp only [go_sem, qA, qB, qC, qD, qE, qF, qG, qH]
    repeat refine K ?_
    by_cases he : xs.getD i [] = ys.getD i []
    ·simp only [go_sem, qA, qB, qC, qD, qE, qF, qG, qH, he, qA6 (i := i) (by omega)]
     repeat refine K ?_
     refine qA8 (i + 1) (Sub.shape [] id (by omega) ?_ ?_ ?_ ?_) ?_ ?_
     any_goals (first | omega | (simp [qA3]; done))
     refine ⟨hil, ?_⟩
     rw [List.take_succ_eq_append_getElem hil, List.take_succ_eq_append_getElem hjl, hp]
     have he' : xs[i] = ys[i] := by simpa [List.getD_eq_getElem?_getD, hil, hjl] using he
     rw [he']
    ·simp only [go_sem, qA, qB, qC, qD, qE, qF, qG, qH, he]
     repeat refine K ?_
     refine fz ?_; simp [FinS, nilL, nilV, oneOr, -List.drop_one]
     intro h
     subst h
     exact he rfl
   ·simp only [decide_eq_false_iff_not] at hc
    have he : xs = ys := by
     have h1 : i = xs.length := by omega
     rw [h1, List.take_length, hl, List.take_length] at hp
     exact hp
    simp only [go_sem, qA, qB, qC, qD, qE, qF, qG, qH]
    repeat refine K ?_
    refine fz ?_; simp [FinS, nilL, nilV, oneOr, -List.drop_one]
    exact he
structure SmallC (cs : List (List Write)) : Prop where
 len : cs.length < 2 ^ 40
 cell : ∀ c ∈ cs, c.length < 2 ^ 40
 view : ∀ c ∈ cs, ∀ w ∈ c, w.view.length < 2 ^ 40
structure SmallM (m : Machine) : Prop where
 codes : m.codes.length < 2 ^ 40
 code : ∀ c ∈ m.codes, c.length < 2 ^ 40
 cores : m.cores.length < 2 ^ 40
 regs : ∀ k ∈ m.cores, k.regs.length < 2 ^ 40
 views : ∀ k ∈ m.cores, k.view.length < 2 ^ 40
 mem : SmallC m.mem.cells
 tr : m.tr.length < 2 ^ 40
structure LongM (m : Machine) : Prop where
 codes : m.codes.length < 2 ^ 63
 code : ∀ c ∈ m.codes, c.length < 2 ^ 63
 cores : m.cores.length < 2 ^ 63
 regs : ∀ k ∈ m.cores, k.regs.length < 2 ^ 63
 views : ∀ k ∈ m.cores, k.view.length < 2 ^ 63
 cells : m.mem.cells.length < 2 ^ 63
 cell : ∀ c ∈ m.mem.cells, c.length < 2 ^ 63
 view : ∀ c ∈ m.mem.cells, ∀ w ∈ c, w.view.length < 2 ^ 63
 tr : m.tr.length < 2 ^ 63
theorem toMemory_ok (cs : List (List Write)) (h : SmallC cs) : CallOk Try.prog num 228 [.agg (memoryC .bw ⟨cs⟩)] [] (.agg (memoryC .own ⟨cs⟩)) := by
 refine EN m228 Try.func32 ?_
 unfold m228
 simp only [go_sem, qA, qB, qC, qD, qE, qF, qG, qH]
 repeat refine K ?_
 refine CA [] (toWriteSS_ok cs (by have := h.len; omega) (fun b hb => by have := h.cell b hb; omega) (fun b hb x hx => by have := h.view b hb x hx; omega)) ?_
 try simp only [go_sem, qA, qB, qC, qD, qE, qF, qG, qH]
 repeat refine K ?_
 try simp only [go_sem, qA, qB, qC, qD, qE, qF, qG, qH]
 repeat refine K ?_
 refine ⟨_, Sub.refl _, qB5 ?_⟩; simp [-List.drop_one]
def zMem (cs : List (List Write)) : Nat := cs.length + tots zWriteS cs
theorem szMemory_ok (cs : List (List Write)) (n : Int) (h1 : cs.length < 2 ^ 63) (h2 : ∀ c ∈ cs, c.length < 2 ^ 63) (h3 : ∀ c ∈ cs, ∀ w ∈ c, w.view.length < 2 ^ 63) (h0 : 0 ≤ n) (hn : n ≤ 2 ^ 61) : CallOk Try.prog num 223 [.agg (memoryC .bw ⟨cs⟩), .int .i64 n] [] (.int .i64 (szL (zMem cs) n)) := by
 refine EN m223 Try.func24 ?_
 unfold m223 zMem
 simp only [go_sem, qA, qB, qC, qD, qE, qF, qG, qH]
 repeat refine K ?_
 refine CA [] (szWriteSS_ok cs n h1 h2 h3 h0 hn) ?_
 try simp only [go_sem, qA, qB, qC, qD, qE, qF, qG, qH]
 repeat refine K ?_
 refine qA2 (fun hk => ?_) (fun hk => ?_)
 ·simp only [decide_eq_true_eq] at hk
  simp only [go_sem, qA, qB, qC, qD, qE, qF, qG, qH]
  repeat refine K ?_
  refine fz ?_; simp [FinS, nilL, nilV, oneOr, -List.drop_one]
  rw [szL_neg hk]
 ·simp only [go_sem, qA, qB, qC, qD, qE, qF, qG, qH]
  repeat refine K ?_
  refine fz ?_; simp [FinS, nilL, nilV, oneOr, -List.drop_one]
theorem eqMemory_ok (cs ds : List (List Write)) (h1 : cs.length ≤ 2 ^ 47) (h2 : ∀ c ∈ cs, c.length ≤ 2 ^ 47) (h3 : ∀ c ∈ cs, ∀ w ∈ c, w.view.length ≤ 2 ^ 47) : CallOk Try.prog num 232 [.agg (memoryC .bw ⟨cs⟩), .agg (memoryC .bw ⟨ds⟩)] [] (.bool (decide (cs = ds))) := by
 refine EN m232 Try.func39 ?_
 unfold m232
 simp only [go_sem, qA, qB, qC, qD, qE, qF, qG, qH]
 repeat refine K ?_
 refine CA [] (eqWriteSS_ok cs ds h1 h2 h3) ?_
 try simp only [go_sem, qA, qB, qC, qD, qE, qF, qG, qH]
 repeat refine K ?_
 by_cases e : cs = ds
 ·try simp only [go_sem, qA, qB, qC, qD, qE, qF, qG, qH, e]
  repeat refine K ?_
  refine fz ?_; simp [FinS, nilL, nilV, oneOr, -List.drop_one]
 ·try simp only [go_sem, qA, qB, qC, qD, qE, qF, qG, qH, e]
  repeat refine K ?_
  refine fz ?_; simp [FinS, nilL, nilV, oneOr, -List.drop_one]
theorem toMachine_ok (m : Machine) (h : SmallM m) : CallOk Try.prog num 173 [.agg (machineC .bw m)] [] (.agg (machineC .own m)) := by
 obtain ⟨h1, h2, h3, h4, h5, h6, h7⟩ := h
 refine EN m173 Try.func8 ?_
 unfold m173
 simp only [go_sem, qA, qB, qC, qD, qE, qF, qG, qH]
 repeat refine K ?_
 refine CA [] (toStepSS_ok m.codes (by omega) (fun b hb => by have := h2 b hb; omega)) ?_
 try simp only [go_sem, qA, qB, qC, qD, qE, qF, qG, qH]
 repeat refine K ?_
 try simp only [go_sem, qA, qB, qC, qD, qE, qF, qG, qH]
 repeat refine K ?_
 refine CA [] (toCoreS_ok m.cores (by omega) (fun b hb => by have := h4 b hb; omega) (fun b hb => by have := h5 b hb; omega)) ?_
 try simp only [go_sem, qA, qB, qC, qD, qE, qF, qG, qH]
 repeat refine K ?_
 try simp only [go_sem, qA, qB, qC, qD, qE, qF, qG, qH]
 repeat refine K ?_
 refine CA [] (toMemory_ok m.mem.cells h6) ?_
 try simp only [go_sem, qA, qB, qC, qD, qE, qF, qG, qH]
 repeat refine K ?_
 try simp only [go_sem, qA, qB, qC, qD, qE, qF, qG, qH]
 repeat refine K ?_
 refine CA [] (toNoteS_ok m.tr (by omega)) ?_
 try simp only [go_sem, qA, qB, qC, qD, qE, qF, qG, qH]
 repeat refine K ?_
 try simp only [go_sem, qA, qB, qC, qD, qE, qF, qG, qH]
 repeat refine K ?_
 refine ⟨_, Sub.refl _, qB5 ?_⟩; simp [-List.drop_one]
def zMachine (m : Machine) : Nat := (m.codes.length + tots zStepS m.codes) + ((m.cores.length + tots zCore m.cores) + (zMem m.mem.cells + m.tr.length))
set_option maxHeartbeats 2000000 in
theorem szMachine_ok (m : Machine) (n : Int) (h : LongM m) (h0 : 0 ≤ n) (hn : n ≤ 2 ^ 61) : CallOk Try.prog num 172 [.agg (machineC .bw m), .int .i64 n] [] (.int .i64 (szL (zMachine m) n)) := by
 obtain ⟨h1, h2, h3, h4, h5, h6, h7, h8, h9⟩ := h
 refine EN m172 Try.func6 ?_
 unfold m172 zMachine
 rw [← szL_add _ _ _ h0]
 simp only [go_sem, qA, qB, qC, qD, qE, qF, qG, qH]
 repeat refine K ?_
 refine CA [] (szStepSS_ok m.codes n h1 h2 h0 hn) ?_
 try simp only [go_sem, qA, qB, qC, qD, qE, qF, qG, qH]
 repeat refine K ?_
 have l1 := szL_le (k := m.codes.length + tots zStepS m.codes) h0
 generalize szL (m.codes.length + tots zStepS m.codes) n = n1 at *
 refine qA2 (fun hk => ?_) (fun hk => ?_)
 ·simp only [decide_eq_true_eq] at hk
  rw [if_pos hk]
  simp only [go_sem, qA, qB, qC, qD, qE, qF, qG, qH]
  repeat refine K ?_
  refine fz ?_; simp [FinS, nilL, nilV, oneOr, -List.drop_one]
 simp only [decide_eq_false_iff_not] at hk
 rw [if_neg hk, ← szL_add _ _ _ (by omega)]
 simp only [go_sem, qA, qB, qC, qD, qE, qF, qG, qH]
 repeat refine K ?_
 refine CA [] (szCoreS_ok m.cores n1 h3 h4 h5 (by omega) (by omega)) ?_
 try simp only [go_sem, qA, qB, qC, qD, qE, qF, qG, qH]
 repeat refine K ?_
 have l2 := szL_le (k := m.cores.length + tots zCore m.cores) (n := n1) (by omega)
 generalize szL (m.cores.length + tots zCore m.cores) n1 = n2 at *
 refine qA2 (fun hk2 => ?_) (fun hk2 => ?_)
 ·simp only [decide_eq_true_eq] at hk2
  rw [if_pos hk2]
  simp only [go_sem, qA, qB, qC, qD, qE, qF, qG, qH]
  repeat refine K ?_
  refine fz ?_; simp [FinS, nilL, nilV, oneOr, -List.drop_one]
 simp only [decide_eq_false_iff_not] at hk2
 rw [if_neg hk2, ← szL_add _ _ _ (by omega)]
 simp only [go_sem, qA, qB, qC, qD, qE, qF, qG, qH]
 repeat refine K ?_
 refine CA [] (szMemory_ok m.mem.cells n2 h6 h7 h8 (by omega) (by omega)) ?_
 try simp only [go_sem, qA, qB, qC, qD, qE, qF, qG, qH]
 repeat refine K ?_
 have l3 := szL_le (k := zMem m.mem.cells) (n := n2) (by omega)
 generalize szL (zMem m.mem.cells) n2 = n3 at *
 refine qA2 (fun hk3 => ?_) (fun hk3 => ?_)
 ·simp only [decide_eq_true_eq] at hk3
  rw [if_pos hk3]
  simp only [go_sem, qA, qB, qC, qD, qE, qF, qG, qH]
  repeat refine K ?_
  refine fz ?_; simp [FinS, nilL, nilV, oneOr, -List.drop_one]
 simp only [decide_eq_false_iff_not] at hk3
 rw [if_neg hk3]
 simp only [go_sem, qA, qB, qC, qD, qE, qF, qG, qH]
 repeat refine K ?_
 refine CA [] (szNoteS_ok m.tr n3 h9 (by omega) (by omega)) ?_
 try simp only [go_sem, qA, qB, qC, qD, qE, qF, qG, qH]
 repeat refine K ?_
 refine qA2 (fun hk4 => ?_) (fun hk4 => ?_)
 ·simp only [decide_eq_true_eq] at hk4
  simp only [go_sem, qA, qB, qC, qD, qE, qF, qG, qH]
  repeat refine K ?_
  refine fz ?_; simp [FinS, nilL, nilV, oneOr, -List.drop_one]
  rw [szL_neg hk4]
 ·simp only [go_sem, qA, qB, qC, qD, qE, qF, qG, qH]
  repeat refine K ?_
  refine fz ?_; simp [FinS, nilL, nilV, oneOr, -List.drop_one]
theorem eqMachine_ok (m q : Machine) (h : SmallM m) : CallOk Try.prog num 176 [.agg (machineC .bw m), .agg (machineC .bw q)] [] (.bool (decide (m = q))) := by
 obtain ⟨h1, h2, h3, h4, h5, ⟨h6, h8, h9⟩, h7⟩ := h
 refine EN m176 Try.func11 ?_
 unfold m176
 simp only [go_sem, qA, qB, qC, qD, qE, qF, qG, qH]
 repeat refine K ?_
 refine CA [] (eqStepSS_ok m.codes q.codes (by omega) (fun b hb => by have := h2 b hb; omega)) ?_
 try simp only [go_sem, qA, qB, qC, qD, qE, qF, qG, qH]
 repeat refine K ?_
 by_cases e1 : m.codes = q.codes
 case neg =>
  try simp only [go_sem, qA, qB, qC, qD, qE, qF, qG, qH, e1]
  repeat refine K ?_
  refine fz ?_; simp [FinS, nilL, nilV, oneOr, -List.drop_one]
  intro h
  exact e1 (by rw [h])
 try simp only [go_sem, qA, qB, qC, qD, qE, qF, qG, qH, e1]
 repeat refine K ?_
 refine CA [] (eqCoreS_ok m.cores q.cores (by omega) (fun b hb => by have := h4 b hb; omega) (fun b hb => by have := h5 b hb; omega)) ?_
 try simp only [go_sem, qA, qB, qC, qD, qE, qF, qG, qH]
 repeat refine K ?_
 by_cases e2 : m.cores = q.cores
 case neg =>
  try simp only [go_sem, qA, qB, qC, qD, qE, qF, qG, qH, e2]
  repeat refine K ?_
  refine fz ?_; simp [FinS, nilL, nilV, oneOr, -List.drop_one]
  intro h
  exact e2 (by rw [h])
 try simp only [go_sem, qA, qB, qC, qD, qE, qF, qG, qH, e2]
 repeat refine K ?_
 refine CA [] (eqMemory_ok m.mem.cells q.mem.cells (by omega) (fun b hb => by have := h8 b hb; omega) (fun b hb x hx => by have := h9 b hb x hx; omega)) ?_
 try simp only [go_sem, qA, qB, qC, qD, qE, qF, qG, qH]
 repeat refine K ?_
 by_cases e3 : m.mem.cells = q.mem.cells
 case neg =>
  try simp only [go_sem, qA, qB, qC, qD, qE, qF, qG, qH, e3]
  repeat refine K ?_
  refine fz ?_; simp [FinS, nilL, nilV, oneOr, -List.drop_one]
  intro h
  exact e3 (by rw [h])
 try simp only [go_sem, qA, qB, qC, qD, qE, qF, qG, qH, e3]
 repeat refine K ?_
 refine CA [] (eqNoteS_ok m.tr q.tr (by omega)) ?_
 try simp only [go_sem, qA, qB, qC, qD, qE, qF, qG, qH]
 repeat refine K ?_
 by_cases e4 : m.tr = q.tr
 case neg =>
  try simp only [go_sem, qA, qB, qC, qD, qE, qF, qG, qH, e4]
  repeat refine K ?_
  refine fz ?_; simp [FinS, nilL, nilV, oneOr, -List.drop_one]
  intro h
  exact e4 (by rw [h])
 try simp only [go_sem, qA, qB, qC, qD, qE, qF, qG, qH, e4]
 repeat refine K ?_
 refine fz ?_; simp [FinS, nilL, nilV, oneOr, -List.drop_one]
 obtain ⟨a, b, ⟨c⟩, d⟩ := m
 obtain ⟨a', b', ⟨c'⟩, d'⟩ := q
 simp_all
theorem smallM_of {m : Machine} {n : Nat} (h : zMachine m ≤ n) (hn : n < 2 ^ 40) : SmallM m := by
 unfold zMachine zMem at h
 refine ⟨by omega, fun c hc => ?_, by omega, fun k hk => ?_, fun k hk => ?_, ⟨by omega, fun c hc => ?_, fun c hc w hw => ?_⟩, by omega⟩
 ·have := tots_mem (w := zStepS) hc
  unfold zStepS at this h
  omega
 ·have := tots_mem (w := zCore) hk
  unfold zCore at this h
  omega
 ·have := tots_mem (w := zCore) hk
  unfold zCore at this h
  omega
 ·have := tots_mem (w := zWriteS) hc
  unfold zWriteS at this h
  omega
 ·have := tots_mem (w := zWriteS) hc
  have h2 := tots_mem (w := zWrite) hw
  unfold zWriteS at this h
  unfold zWrite at this h h2
  omega
end Go.Sep
