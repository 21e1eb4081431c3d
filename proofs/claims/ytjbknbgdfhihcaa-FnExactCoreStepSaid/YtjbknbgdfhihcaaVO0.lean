/- Contracts of functions. -/
import Derived.Test.YtjbknbgdfhihcaaVN0
namespace Go.Sep
open Go.Proofs
set_option linter.unusedSimpArgs false
set_option linter.unusedVariables false
set_option maxRecDepth 100000
open Nat renaming reduceAdd → qA, reduceMul → qB, reduceEqDiff → qC, reduceBEq → qD
open Int renaming reduceToNat → qE, reduceEq → qF, reduceLT → qG, reduceLE → qH
open List renaming getD_eq_getElem?_getD → gD
def m356 : MFn := ⟨35, [.cell 2 4 true], .seq (xr [xb 1 0, xo 2 (.alloc [.nil, .nil, .nil, .nil])]) (.seq (.dreg (.take 0 (xa 5 0 1) (.take 1 (xl 6 5) (.take 3 (xa 8 2 1) (.take 4 (xm 9 1 8) (.take 7 (xa 12 3 1) (.take 8 (xl 13 12) (.tri 2 [1, 0] (xc1 7 372 (.t 6)) (.tri 5 [2, 4, 1, 3, 0] (xc1 10 373 (.t 9)) (.both 6 [] (xo 11 (.mkSl [xz, xz] 0 [])) (.both 9 [5, 8, 2, 4, 7, 1, 3, 0] (xo 14 (.app 2 16 (.t 11) (.t 13))) (.take 10 (xo 15 (.build [.nil, .nil, .nil, .nil] [(0, 1, .t 7), (2, 1, .t 10), (3, 1, .t 14)])) (.only 11 [] (xo 3 (.alloc [.nil, .nil, .nil, .nil])) (.only 12 [0, 1, 3, 4, 7, 8, 10] ⟨none, .store 4 (.t 3) (.t 15), none⟩ (.done)))) 11 [] (xo 3 (.alloc [.nil, .nil, .nil, .nil])) (.only 9 [5, 8, 2, 4, 7, 1, 3, 0] (xo 14 (.app 2 16 (.t 11) (.t 13))) (.only 10 [2, 5, 9, 1, 4, 8, 0, 3, 7] (xo 15 (.build [.nil, .nil, .nil, .nil] [(0, 1, .t 7), (2, 1, .t 10), (3, 1, .t 14)])) (.only 12 [0, 1, 3, 4, 7, 8] ⟨none, .store 4 (.t 3) (.t 15), none⟩ (.done))))) 11 [] (xo 3 (.alloc [.nil, .nil, .nil, .nil])) (.only 6 [] (xo 11 (.mkSl [xz, xz] 0 [])) (.only 9 [5, 8, 2, 4, 7, 1, 3, 0] (xo 14 (.app 2 16 (.t 11) (.t 13))) (.only 10 [2, 5, 9, 1, 4, 8, 0, 3, 7] (xo 15 (.build [.nil, .nil, .nil, .nil] [(0, 1, .t 7), (2, 1, .t 10), (3, 1, .t 14)])) (.only 12 [0, 1, 3, 4, 7, 8] ⟨none, .store 4 (.t 3) (.t 15), none⟩ (.done)))))) 6 [] (xo 11 (.mkSl [xz, xz] 0 [])) (.both 5 [2, 4, 1, 3, 0] (xc1 10 373 (.t 9)) (.both 9 [5, 8, 2, 4, 7, 1, 3, 0] (xo 14 (.app 2 16 (.t 11) (.t 13))) (.take 10 (xo 15 (.build [.nil, .nil, .nil, .nil] [(0, 1, .t 7), (2, 1, .t 10), (3, 1, .t 14)])) (.only 11 [] (xo 3 (.alloc [.nil, .nil, .nil, .nil])) (.only 12 [0, 1, 3, 4, 7, 8, 10] ⟨none, .store 4 (.t 3) (.t 15), none⟩ (.done)))) 11 [] (xo 3 (.alloc [.nil, .nil, .nil, .nil])) (.only 9 [5, 8, 2, 4, 7, 1, 3, 0] (xo 14 (.app 2 16 (.t 11) (.t 13))) (.only 10 [2, 5, 9, 1, 4, 8, 0, 3, 7] (xo 15 (.build [.nil, .nil, .nil, .nil] [(0, 1, .t 7), (2, 1, .t 10), (3, 1, .t 14)])) (.only 12 [0, 1, 3, 4, 7, 8] ⟨none, .store 4 (.t 3) (.t 15), none⟩ (.done))))) 11 [] (xo 3 (.alloc [.nil, .nil, .nil, .nil])) (.only 5 [2, 4, 1, 3, 0] (xc1 10 373 (.t 9)) (.only 9 [5, 8, 2, 4, 7, 1, 3, 0] (xo 14 (.app 2 16 (.t 11) (.t 13))) (.only 10 [2, 5, 9, 1, 4, 8, 0, 3, 7] (xo 15 (.build [.nil, .nil, .nil, .nil] [(0, 1, .t 7), (2, 1, .t 10), (3, 1, .t 14)])) (.only 12 [0, 1, 3, 4, 7, 8] ⟨none, .store 4 (.t 3) (.t 15), none⟩ (.done)))))) 11 [] (xo 3 (.alloc [.nil, .nil, .nil, .nil])) (.both 5 [2, 4, 1, 3, 0] (xc1 10 373 (.t 9)) (.only 6 [] (xo 11 (.mkSl [xz, xz] 0 [])) (.only 9 [5, 8, 2, 4, 7, 1, 3, 0] (xo 14 (.app 2 16 (.t 11) (.t 13))) (.only 10 [2, 5, 9, 1, 4, 8, 0, 3, 7] (xo 15 (.build [.nil, .nil, .nil, .nil] [(0, 1, .t 7), (2, 1, .t 10), (3, 1, .t 14)])) (.only 12 [0, 1, 3, 4, 7, 8] ⟨none, .store 4 (.t 3) (.t 15), none⟩ (.done))))) 6 [] (xo 11 (.mkSl [xz, xz] 0 [])) (.only 5 [2, 4, 1, 3, 0] (xc1 10 373 (.t 9)) (.only 9 [5, 8, 2, 4, 7, 1, 3, 0] (xo 14 (.app 2 16 (.t 11) (.t 13))) (.only 10 [2, 5, 9, 1, 4, 8, 0, 3, 7] (xo 15 (.build [.nil, .nil, .nil, .nil] [(0, 1, .t 7), (2, 1, .t 10), (3, 1, .t 14)])) (.only 12 [0, 1, 3, 4, 7, 8] ⟨none, .store 4 (.t 3) (.t 15), none⟩ (.done))))))) 6 [] (xo 11 (.mkSl [xz, xz] 0 [])) (.both 2 [1, 0] (xc1 7 372 (.t 6)) (.both 5 [2, 4, 1, 3, 0] (xc1 10 373 (.t 9)) (.both 9 [5, 8, 2, 4, 7, 1, 3, 0] (xo 14 (.app 2 16 (.t 11) (.t 13))) (.take 10 (xo 15 (.build [.nil, .nil, .nil, .nil] [(0, 1, .t 7), (2, 1, .t 10), (3, 1, .t 14)])) (.only 11 [] (xo 3 (.alloc [.nil, .nil, .nil, .nil])) (.only 12 [0, 1, 3, 4, 7, 8, 10] ⟨none, .store 4 (.t 3) (.t 15), none⟩ (.done)))) 11 [] (xo 3 (.alloc [.nil, .nil, .nil, .nil])) (.only 9 [5, 8, 2, 4, 7, 1, 3, 0] (xo 14 (.app 2 16 (.t 11) (.t 13))) (.only 10 [2, 5, 9, 1, 4, 8, 0, 3, 7] (xo 15 (.build [.nil, .nil, .nil, .nil] [(0, 1, .t 7), (2, 1, .t 10), (3, 1, .t 14)])) (.only 12 [0, 1, 3, 4, 7, 8] ⟨none, .store 4 (.t 3) (.t 15), none⟩ (.done))))) 11 [] (xo 3 (.alloc [.nil, .nil, .nil, .nil])) (.only 5 [2, 4, 1, 3, 0] (xc1 10 373 (.t 9)) (.only 9 [5, 8, 2, 4, 7, 1, 3, 0] (xo 14 (.app 2 16 (.t 11) (.t 13))) (.only 10 [2, 5, 9, 1, 4, 8, 0, 3, 7] (xo 15 (.build [.nil, .nil, .nil, .nil] [(0, 1, .t 7), (2, 1, .t 10), (3, 1, .t 14)])) (.only 12 [0, 1, 3, 4, 7, 8] ⟨none, .store 4 (.t 3) (.t 15), none⟩ (.done)))))) 11 [] (xo 3 (.alloc [.nil, .nil, .nil, .nil])) (.only 2 [1, 0] (xc1 7 372 (.t 6)) (.only 5 [2, 4, 1, 3, 0] (xc1 10 373 (.t 9)) (.only 9 [5, 8, 2, 4, 7, 1, 3, 0] (xo 14 (.app 2 16 (.t 11) (.t 13))) (.only 10 [2, 5, 9, 1, 4, 8, 0, 3, 7] (xo 15 (.build [.nil, .nil, .nil, .nil] [(0, 1, .t 7), (2, 1, .t 10), (3, 1, .t 14)])) (.only 12 [0, 1, 3, 4, 7, 8] ⟨none, .store 4 (.t 3) (.t 15), none⟩ (.done))))))) 11 [] (xo 3 (.alloc [.nil, .nil, .nil, .nil])) (.both 2 [1, 0] (xc1 7 372 (.t 6)) (.both 5 [2, 4, 1, 3, 0] (xc1 10 373 (.t 9)) (.only 6 [] (xo 11 (.mkSl [xz, xz] 0 [])) (.only 9 [5, 8, 2, 4, 7, 1, 3, 0] (xo 14 (.app 2 16 (.t 11) (.t 13))) (.only 10 [2, 5, 9, 1, 4, 8, 0, 3, 7] (xo 15 (.build [.nil, .nil, .nil, .nil] [(0, 1, .t 7), (2, 1, .t 10), (3, 1, .t 14)])) (.only 12 [0, 1, 3, 4, 7, 8] ⟨none, .store 4 (.t 3) (.t 15), none⟩ (.done))))) 6 [] (xo 11 (.mkSl [xz, xz] 0 [])) (.only 5 [2, 4, 1, 3, 0] (xc1 10 373 (.t 9)) (.only 9 [5, 8, 2, 4, 7, 1, 3, 0] (xo 14 (.app 2 16 (.t 11) (.t 13))) (.only 10 [2, 5, 9, 1, 4, 8, 0, 3, 7] (xo 15 (.build [.nil, .nil, .nil, .nil] [(0, 1, .t 7), (2, 1, .t 10), (3, 1, .t 14)])) (.only 12 [0, 1, 3, 4, 7, 8] ⟨none, .store 4 (.t 3) (.t 15), none⟩ (.done)))))) 6 [] (xo 11 (.mkSl [xz, xz] 0 [])) (.only 2 [1, 0] (xc1 7 372 (.t 6)) (.only 5 [2, 4, 1, 3, 0] (xc1 10 373 (.t 9)) (.only 9 [5, 8, 2, 4, 7, 1, 3, 0] (xo 14 (.app 2 16 (.t 11) (.t 13))) (.only 10 [2, 5, 9, 1, 4, 8, 0, 3, 7] (xo 15 (.build [.nil, .nil, .nil, .nil] [(0, 1, .t 7), (2, 1, .t 10), (3, 1, .t 14)])) (.only 12 [0, 1, 3, 4, 7, 8] ⟨none, .store 4 (.t 3) (.t 15), none⟩ (.done))))))))))))))) (.seq (.seq (xr [xo 4 (.mv (xi 0))]) (.blk 0 (.loop (.seq (.seq (xr [xv 16 4, xa 17 1 1, xl 18 17, xe 19 18, xo 20 (.bin .lss (.t 16) (.t 19))]) (.cond 20 (.skip) (.exit 0))) (.seq (.blk 1 (.dreg (.take 0 (xa 23 1 3) (.take 1 (xl 24 23) (.take 2 (xa 25 1 1) (.take 3 (xl 26 25) (.only 4 [] (xv 27 4) (.only 5 [3, 2] (xo 28 (.iad 4 (.t 26) (.t 27))) (.only 6 [5, 3, 2] (xm 29 4 28) (.only 7 [6, 5, 3, 2] (xc1 30 374 (.t 29)) (.only 8 [7, 6, 5, 3, 2] (xo 31 (.mkSl [.int .i64 0, .nil, .nil, .int .i64 0] 1 [(0, .t 30)])) (.only 9 [1, 7, 0, 6, 5, 3, 2] (xo 32 (.app 4 64 (.t 24) (.t 31))) (.only 10 [0, 1, 2, 3] (xa 33 1 3) (.only 11 [0, 1, 2, 3] ⟨none, .store 1 (.t 33) (.t 32), none⟩ (.done))))))))))))))) (xr [xv 21 4, xo 22 (.bin .add (.t 21) (xi 1)), xv 4 22])))))) (.seq (xr [xm 34 4 3, ⟨none, .store 4 (.t 2) (.t 34), none⟩]) (.ret))))⟩
def m358 : MFn := ⟨56, [.cell 2 4 true], .seq (xr [xb 1 0, xo 2 (.alloc [.nil, .nil, .nil, .nil])]) (.seq (.dreg (.take 0 (xa 8 2 1) (.take 1 (xm 9 1 8) (.take 3 (xa 11 3 1) (.take 4 (xl 12 11) (.both 2 [1, 0] (xc1 10 366 (.t 9)) (.both 5 [2, 4, 1, 3, 0] (xc1 13 69 (.t 12)) (.take 6 (xo 14 (.build [.nil, .nil, .nil, .nil] [(2, 1, .t 10), (3, 1, .t 13)])) (.only 7 [] (xo 3 (.alloc [.nil, .nil, .nil, .nil])) (.only 8 [0, 1, 3, 4, 6] ⟨none, .store 4 (.t 3) (.t 14), none⟩ (.done)))) 7 [] (xo 3 (.alloc [.nil, .nil, .nil, .nil])) (.only 5 [2, 4, 1, 3, 0] (xc1 13 69 (.t 12)) (.only 6 [2, 5, 1, 4, 0, 3] (xo 14 (.build [.nil, .nil, .nil, .nil] [(2, 1, .t 10), (3, 1, .t 13)])) (.only 8 [0, 1, 3, 4] ⟨none, .store 4 (.t 3) (.t 14), none⟩ (.done))))) 7 [] (xo 3 (.alloc [.nil, .nil, .nil, .nil])) (.only 2 [1, 0] (xc1 10 366 (.t 9)) (.only 5 [2, 4, 1, 3, 0] (xc1 13 69 (.t 12)) (.only 6 [2, 5, 1, 4, 0, 3] (xo 14 (.build [.nil, .nil, .nil, .nil] [(2, 1, .t 10), (3, 1, .t 13)])) (.only 8 [0, 1, 3, 4] ⟨none, .store 4 (.t 3) (.t 14), none⟩ (.done))))))))))) (.seq (.seq (xr [xa 15 0 1, xl 16 15, xe 17 16, xo 18 (.mv (xi 0))]) (.blk 0 (.loop (.seq (xr [xo 19 (.bin .lss (.t 18) (.t 17))]) (.seq (.cond 19 (.skip) (.exit 0)) (.seq (.blk 1 (.seq (xr [xo 20 (.iad 1 (.t 16) (.t 18)), xl 21 20, xv 5 21]) (.dreg (.take 0 (xa 22 0 3) (.take 1 (xl 23 22) (.take 3 (xv 25 5) (.only 2 [] (xo 24 (.mkSl [xz, xz, xz, xz, xz] 0 [])) (.only 4 [3] (xo 26 (.app 5 40 (.t 24) (.t 25))) (.only 5 [4, 3] (xo 27 (.mkSl [.nil] 1 [(0, .t 26)])) (.only 6 [1, 4, 0, 3] (xo 28 (.app 1 24 (.t 23) (.t 27))) (.only 7 [0, 1, 3] (xa 29 0 3) (.only 8 [0, 1, 3] ⟨none, .store 1 (.t 29) (.t 28), none⟩ (.done))))))))))))) (xr [xo 30 (.bin .add (.t 18) (xi 1)), xv 18 30]))))))) (.seq (.seq (xr [xa 31 1 1, xl 32 31, xe 33 32, xo 34 (.mv (xi 0))]) (.blk 2 (.loop (.seq (xr [xo 35 (.bin .lss (.t 34) (.t 33))]) (.seq (.cond 35 (.skip) (.exit 2)) (.seq (.blk 3 (.seq (xr [xo 36 (.iad 4 (.t 32) (.t 34)), xm 37 4 36, xo 7 (.alloc [.int .i64 0, .nil, .nil, .int .i64 0]), ⟨none, .store 4 (.t 7) (.t 37), none⟩]) (.dreg (.take 0 (xa 38 1 3) (.take 1 (xl 39 38) (.take 2 (xa 40 0 7) (.take 3 (xl 41 40) (.take 4 (xa 42 1 7) (.take 5 (xl 43 42) (.take 7 (xa 45 2 7) (.take 8 (xl 46 45) (.take 10 (xa 48 3 7) (.take 11 (xl 49 48) (.only 6 [5, 4] (xc1 44 36 (.t 43)) (.only 9 [6, 8, 5, 7, 4] (xc1 47 36 (.t 46)) (.only 12 [3, 6, 9, 11, 2, 5, 8, 10, 4, 7] (xo 50 (.build [.int .i64 0, .nil, .nil, .int .i64 0] [(0, 1, .t 41), (1, 1, .t 44), (2, 1, .t 47), (3, 1, .t 49)])) (.only 13 [12, 3, 6, 9, 11, 2, 5, 8, 10, 4, 7] (xo 51 (.mkSl [.int .i64 0, .nil, .nil, .int .i64 0] 1 [(0, .t 50)])) (.only 14 [1, 9, 13, 0, 6, 8, 12, 5, 7, 3, 11, 4, 2, 10] (xo 52 (.app 4 64 (.t 39) (.t 51))) (.only 15 [0, 1, 2, 3, 4, 5, 7, 8, 10, 11] (xa 53 1 3) (.only 16 [0, 1, 2, 3, 4, 5, 7, 8, 10, 11] ⟨none, .store 1 (.t 53) (.t 52), none⟩ (.done))))))))))))))))))))) (xr [xo 54 (.bin .add (.t 34) (xi 1)), xv 34 54]))))))) (.seq (xr [xm 55 4 3, ⟨none, .store 4 (.t 2) (.t 55), none⟩]) (.ret)))))⟩
def m366 : MFn := ⟨42, [.cell 2 1 true], .seq (xr [xb 1 0, xo 2 (.alloc [.nil])]) (.seq (xr [xo 9 (.build [.nil] []), xo 3 (.alloc [.nil]), ⟨none, .store 1 (.t 3) (.t 9), none⟩]) (.seq (.seq (xr [xa 10 0 1, xl 11 10, xe 12 11, xo 13 (.mv (xi 0))]) (.blk 0 (.loop (.seq (xr [xo 14 (.bin .lss (.t 13) (.t 12))]) (.seq (.cond 14 (.skip) (.exit 0)) (.seq (.blk 1 (.seq (xr [xo 15 (.iad 1 (.t 11) (.t 13)), xl 16 15, xv 5 16]) (.seq (xr [xo 17 (.mkSl [.int .i64 0, .nil] 0 []), xv 6 17]) (.seq (.seq (xr [xv 18 5, xe 19 18, xo 20 (.mv (xi 0))]) (.blk 2 (.loop (.seq (xr [xo 21 (.bin .lss (.t 20) (.t 19))]) (.seq (.cond 21 (.skip) (.exit 2)) (.seq (.blk 3 (.seq (xr [xo 22 (.iad 2 (.t 18) (.t 20)), xm 23 2 22, xo 8 (.alloc [.int .i64 0, .nil]), ⟨none, .store 2 (.t 8) (.t 23), none⟩]) (.dreg (.take 0 (xv 24 6) (.take 1 (xa 25 0 8) (.take 2 (xl 26 25) (.only 3 [] (xa 27 1 8) (.only 4 [] (xl 28 27) (.only 5 [] (xc1 29 36 (.t 28)) (.only 6 [2, 1] (xo 30 (.build [.int .i64 0, .nil] [(0, 1, .t 26), (1, 1, .t 29)])) (.only 7 [6, 2, 1] (xo 31 (.mkSl [.int .i64 0, .nil] 1 [(0, .t 30)])) (.only 8 [0, 7, 6, 2, 1] (xo 32 (.app 2 32 (.t 24) (.t 31))) (.only 9 [0, 1, 2] (xv 6 32) (.done)))))))))))))) (xr [xo 33 (.bin .add (.t 20) (xi 1)), xv 20 33]))))))) (xr [xa 34 0 3, xl 35 34, xv 36 6, xo 37 (.mkSl [.nil] 1 [(0, .t 36)]), xo 38 (.app 1 24 (.t 35) (.t 37)), xa 39 0 3, ⟨none, .store 1 (.t 39) (.t 38), none⟩]))))) (xr [xo 40 (.bin .add (.t 13) (xi 1)), xv 13 40]))))))) (.seq (xr [xm 41 1 3, ⟨none, .store 1 (.t 2) (.t 41), none⟩]) (.ret))))⟩
def m372 : MFn := ⟨22, [.t 2], .seq (xr [xo 2 (.mv (.c (.nil)))]) (.seq (xr [xo 5 (.mkSl [.nil] 0 []), xv 3 5]) (.seq (.seq (xr [xo 4 (.mv (xi 0))]) (.blk 0 (.loop (.seq (.seq (xr [xv 6 4, xv 7 0, xe 8 7, xo 9 (.bin .lss (.t 6) (.t 8))]) (.cond 9 (.skip) (.exit 0))) (.seq (.blk 1 (xr [xv 12 3, xo 13 (.mkSl [xz, xz, xz, xz, xz] 0 []), xv 14 0, xv 15 4, xo 16 (.iad 1 (.t 14) (.t 15)), xl 17 16, xo 18 (.app 5 40 (.t 13) (.t 17)), xo 19 (.mkSl [.nil] 1 [(0, .t 18)]), xo 20 (.app 1 24 (.t 12) (.t 19)), xv 3 20])) (xr [xv 10 4, xo 11 (.bin .add (.t 10) (xi 1)), xv 4 11])))))) (.seq (xr [xv 21 3, xv 2 21]) (.ret))))⟩
def m373 : MFn := ⟨57, [.cell 2 1 true], .seq (xr [xb 1 0, xo 2 (.alloc [.nil])]) (.seq (xr [xo 7 (.build [.nil] []), xo 3 (.alloc [.nil]), ⟨none, .store 1 (.t 3) (.t 7), none⟩]) (.seq (.seq (xr [xo 4 (.mv (xi 0))]) (.blk 0 (.loop (.seq (.seq (xr [xv 8 4, xa 9 0 1, xl 10 9, xe 11 10, xo 12 (.bin .lss (.t 8) (.t 11))]) (.cond 12 (.skip) (.exit 0))) (.seq (.blk 1 (.seq (xr [xo 15 (.mkSl [.int .i64 0, .nil] 0 []), xv 5 15]) (.seq (.seq (xr [xo 6 (.mv (xi 0))]) (.blk 2 (.loop (.seq (.seq (xr [xv 16 6, xa 17 0 1, xl 18 17, xv 19 4, xo 20 (.iad 1 (.t 18) (.t 19)), xl 21 20, xe 22 21, xo 23 (.bin .lss (.t 16) (.t 22))]) (.cond 23 (.skip) (.exit 2))) (.seq (.blk 3 (.dreg (.take 0 (xv 26 5) (.take 1 (xa 27 0 1) (.take 2 (xl 28 27) (.take 3 (xv 29 4) (.take 4 (xo 30 (.iad 1 (.t 28) (.t 29))) (.take 5 (xl 31 30) (.take 6 (xv 32 6) (.take 7 (xo 33 (.iad 2 (.t 31) (.t 32))) (.take 8 (xa 34 0 33) (.take 9 (xl 35 34) (.take 11 (xa 37 0 1) (.take 12 (xl 38 37) (.take 13 (xv 39 4) (.take 14 (xo 40 (.iad 1 (.t 38) (.t 39))) (.take 15 (xl 41 40) (.take 16 (xv 42 6) (.take 17 (xo 43 (.iad 2 (.t 41) (.t 42))) (.take 18 (xa 44 1 43) (.take 19 (xl 45 44) (.only 10 [] (xo 36 (.mkSl [xz] 0 [])) (.only 20 [19, 18, 17, 15, 16, 14, 12, 13, 11] (xo 46 (.app 1 8 (.t 36) (.t 45))) (.only 21 [9, 20, 8, 19, 7, 18, 5, 6, 17, 4, 15, 16, 2, 3, 14, 1, 12, 13, 11] (xo 47 (.build [.int .i64 0, .nil] [(0, 1, .t 35), (1, 1, .t 46)])) (.only 22 [21, 9, 20, 8, 19, 7, 18, 5, 6, 17, 4, 15, 16, 2, 3, 14, 1, 12, 13, 11] (xo 48 (.mkSl [.int .i64 0, .nil] 1 [(0, .t 47)])) (.only 23 [0, 20, 22, 19, 21, 18, 9, 17, 8, 15, 16, 7, 14, 5, 6, 12, 13, 4, 11, 2, 3, 1] (xo 49 (.app 2 32 (.t 26) (.t 48))) (.only 24 [0, 1, 2, 3, 4, 5, 6, 7, 8, 9, 11, 12, 13, 14, 15, 16, 17, 18, 19] (xv 5 49) (.done)))))))))))))))))))))))))))) (xr [xv 24 6, xo 25 (.bin .add (.t 24) (xi 1)), xv 6 25])))))) (xr [xa 50 0 3, xl 51 50, xv 52 5, xo 53 (.mkSl [.nil] 1 [(0, .t 52)]), xo 54 (.app 1 24 (.t 51) (.t 53)), xa 55 0 3, ⟨none, .store 1 (.t 55) (.t 54), none⟩])))) (xr [xv 13 4, xo 14 (.bin .add (.t 13) (xi 1)), xv 4 14])))))) (.seq (xr [xm 56 1 3, ⟨none, .store 1 (.t 2) (.t 56), none⟩]) (.ret))))⟩
def m374 : MFn := ⟨14, [.cell 2 4 true], .seq (xr [xb 1 0, xo 2 (.alloc [.int .i64 0, .nil, .nil, .int .i64 0])]) (.seq (xr [xo 3 (.mkSl [xz] 0 []), xa 4 1 1, xl 5 4, xo 6 (.app 1 8 (.t 3) (.t 5)), xa 7 1 1, ⟨none, .store 1 (.t 7) (.t 6), none⟩]) (.seq (xr [xo 8 (.mkSl [xz] 0 []), xa 9 2 1, xl 10 9, xo 11 (.app 1 8 (.t 8) (.t 10)), xa 12 2 1, ⟨none, .store 1 (.t 12) (.t 11), none⟩]) (.seq (xr [xm 13 4 1, ⟨none, .store 4 (.t 2) (.t 13), none⟩]) (.ret))))⟩
theorem writes_next (l : List Write) (i : Nat) (h : i < l.length) : writes .own (l.take i) ++ [[AV.int .i64 (l.getD i default).v, .sl .own 1 (ints (l.getD i default).view)]] = writes .own (l.take (i + 1)) := by
 rw [List.take_succ_eq_append_getElem h, ← writes_append]
 simp [writes, writeC, List.getD_eq_getElem?_getD, h]
theorem cels_next (l : List (List Write)) (i : Nat) (h : i < l.length) : cels .own (l.take i) ++ [[AV.sl .own 2 (writes .own (l.getD i []))]] = cels .own (l.take (i + 1)) := by
 rw [List.take_succ_eq_append_getElem h, ← cels_append]
 simp [cels, List.getD_eq_getElem?_getD, h]
theorem codes_next (l : List (List Step)) (i : Nat) (h : i < l.length) : codes .own (l.take i) ++ [[AV.sl .own 5 (steps (l.getD i []))]] = codes .own (l.take (i + 1)) := by
 rw [List.take_succ_eq_append_getElem h, ← codes_append]
 simp [codes, List.getD_eq_getElem?_getD, h]
theorem cores_next (l : List Core) (i : Nat) (h : i < l.length) : cores .own (l.take i) ++ [[AV.int .i64 (l.getD i default).at_, .sl .own 1 (ints (l.getD i default).regs), .sl .own 1 (ints (l.getD i default).view), .int .i64 (l.getD i default).st]] = cores .own (l.take (i + 1)) := by
 rw [List.take_succ_eq_append_getElem h, ← cores_append]
 simp [cores, coreC, List.getD_eq_getElem?_getD, h]
set_option maxHeartbeats 4000000 in
theorem copyMemory_ok (cs : List (List Write)) (h : SmallC cs) : CallOk Try.prog num 366 [.agg (memoryC .bw ⟨cs⟩)] [] (.agg (memoryC .own ⟨cs⟩)) := by
 obtain ⟨h1, h2, h3⟩ := h
 refine EN m366 Try.func79 ?_
 unfold m366
 simp only [go_sem, qA, qB, qC, qD, qE, qF, qG, qH]
 repeat refine K ?_
 refine qA7 (ι := Nat) (fun i => .mk [(2, .ptr 11 0 0), (3, .ptr 12 0 0), (11, .sl .bw 1 (cels .bw cs)), (12, .int .i64 cs.length), (13, .int .i64 i)] [(11, 1, [[.nil]]), (12, 1, [[.sl .own 1 (cels .own (cs.take i))]])] 13) (fun i => i ≤ cs.length) (fun i => cs.length - i) 0 (by simp) ?_ ?_
 ·refine Sub.shape [] id (by omega) ?_ ?_ ?_ ?_ <;> simp [qA3]
 ·rintro i hi
  simp only [go_sem, qA, qB, qC, qD, qE, qF, qG, qH]
  refine qA2 (fun hc => ?_) (fun hc => ?_)
  ·simp only [decide_eq_true_eq] at hc
   have hl' : i < cs.length := by omega
   have hlt : (cs.take i).length = i := by simp; omega
   have hr := h2 _ (qAd cs i [] hl')
   have hv := h3 _ (qAd cs i [] hl')
   have hnx := cels_next cs i hl'
   simp only [go_sem, qA, qB, qC, qD, qE, qF, qG, qH, qA6 (i := i) (by omega), qAi .bw cs i hl', hlt]
   repeat refine K ?_
   generalize cs.getD i [] = c at hr hv hnx
   refine qA7 (ι := Nat) (fun j => .mk [(2, .ptr 11 0 0), (3, .ptr 12 0 0), (6, .ns 13 0 j), (11, .sl .bw 1 (cels .bw cs)), (12, .int .i64 cs.length), (13, .int .i64 i), (18, .sl .bw 2 (writes .bw c)), (19, .int .i64 c.length), (20, .int .i64 j)] [(11, 1, [[.nil]]), (12, 1, [[.sl .own 1 (cels .own (cs.take i))]]), (13, 2, writes .own (c.take j))] 14) (fun j => j ≤ c.length) (fun j => c.length - j) 0 (by simp) ?_ ?_
   ·refine Sub.shape [] id (by omega) ?_ ?_ ?_ ?_ <;> simp [qA3]
   ·rintro j hj
    simp only [go_sem, qA, qB, qC, qD, qE, qF, qG, qH]
    refine qA2 (fun hc2 => ?_) (fun hc2 => ?_)
    ·simp only [decide_eq_true_eq] at hc2
     have hj' : j < c.length := by omega
     have hlt2 : (c.take j).length = j := by simp; omega
     have hw := hv _ (qAd c j default hj')
     simp only [go_sem, qA, qB, qC, qD, qE, qF, qG, qH, qA6 (i := j) (by omega), qAz .bw c j hj', hlt2]
     repeat refine K ?_
     refine DA [] (qCf (c.getD j default).view (by omega)) ?_
     try simp only [go_sem, qA, qB, qC, qD, qE, qF, qG, qH]
     repeat refine K ?_
     simp only [go_sem, qA, qB, qC, qD, qE, qF, qG, qH, qA6 (i := j) (by omega), hlt2]
     repeat refine K ?_
     refine qA8 (j + 1) ?_ hj' (by omega)
     refine Sub.trans (Sub.foldLast 17 1 15 rfl (by simp [-gD] <;> omega) rfl (by decide) (by decide) rfl) ?_
     simp only [fS, fS2, qA, qC, writes_next c j hj']
     refine Sub.shape [] (fun n => if n = 13 then 17 else n) (by omega) ?_ ?_ ?_ ?_ <;> simp [qA3]
    ·simp only [decide_eq_false_iff_not] at hc2
     obtain rfl : j = c.length := by omega
     have hie : c.take c.length = c := List.take_length
     simp only [go_sem, qA, qB, qC, qD, qE, qF, qG, qH, hie, qA6 (i := i) (by omega), hlt]
     repeat refine K ?_
     refine qA8 (i + 1) ?_ hl' (by omega)
     refine Sub.trans (Sub.foldLast 16 0 13 rfl (by simp [-gD] <;> omega) rfl (by decide) (by decide) rfl) ?_
     simp only [fS, fS2, qA, qC, hnx]
     refine Sub.trans (Sub.fold1 12 0 16 rfl (by simp [-gD] <;> omega) rfl (by decide) (by decide) rfl) ?_
     simp only [fS, fS2, qA, qC, List.length_take, Nat.min_eq_left (show i + 1 ≤ cs.length from hl')]
     refine Sub.shape [] id (by omega) ?_ ?_ ?_ ?_ <;> simp [qA3]
  ·simp only [decide_eq_false_iff_not] at hc
   have hie : cs.take i = cs := List.take_of_length_le (by omega)
   simp only [go_sem, qA, qB, qC, qD, qE, qF, qG, qH, hie]
   repeat refine K ?_
   refine ⟨_, Sub.refl _, qB5 ?_⟩; simp [-List.drop_one]
theorem hold1 {A C : Prop} (ha : Hold C → A) (hc : C) : A := ha ⟨hc⟩
theorem loops_mk {P : Program} {num : Nat → Nat} {fin : AS → Prop} {a : MCode} {k : List It} {s : AS} {t : List (Nat × AV)} {h : Heap} {nx : Nat} (hs : Sub s (.mk t h nx)) (hl : loops P num fin a k (.mk t h nx)) : loops P num fin a k s := by
 unfold loops at hl ⊢
 rw [vc] at hl ⊢
 obtain ⟨J, n, ⟨s1, h1, h2⟩, h3⟩ := hl
 exact ⟨J, n, ⟨s1, Sub.trans hs h1, h2⟩, h3⟩
set_option maxHeartbeats 4000000 in
theorem l6Copy_ok (cs : List (List Write)) (h : SmallC cs) : CallOk Try.prog num 373 [.agg (memoryC .bw ⟨cs⟩)] [] (.agg (memoryC .own ⟨cs⟩)) := by
 obtain ⟨h1, h2, h3⟩ := h
 refine EN m373 Try.func66 ?_
 unfold m373
 simp only [go_sem, qA, qB, qC, qD, qE, qF, qG, qH]
 repeat refine K ?_
 refine qA7 (ι := Nat) (fun i => .mk [(1, .ptr 10 0 0), (2, .ptr 11 0 0), (3, .ptr 12 0 0), (4, .int .i64 i)] [(10, 1, [memoryC .bw ⟨cs⟩]), (11, 1, [[.nil]]), (12, 1, [[.sl .own 1 (cels .own (cs.take i))]])] 13) (fun i => i ≤ cs.length) (fun i => cs.length - i) 0 (by simp) ?_ ?_
 ·refine Sub.shape [] id (by omega) ?_ ?_ ?_ ?_ <;> simp [qA3]
 ·rintro i hi
  simp only [go_sem, qA, qB, qC, qD, qE, qF, qG, qH]
  repeat refine K ?_
  refine qA2 (fun hc => ?_) (fun hc => ?_)
  ·simp only [decide_eq_true_eq] at hc
   have hl' : i < cs.length := by omega
   have hlt : (cs.take i).length = i := by simp; omega
   have hr := h2 _ (qAd cs i [] hl')
   have hv := h3 _ (qAd cs i [] hl')
   have hnx := cels_next cs i hl'
   have hcg := qAi .bw cs i hl'
   generalize cs.getD i [] = c at hr hv hnx hcg
   simp only [go_sem, qA, qB, qC, qD, qE, qF, qG, qH, qA6 (i := i) (by omega), hlt]
   repeat refine K ?_
   refine qA7 (ι := Nat) (fun j => .mk [(1, .ptr 10 0 0), (2, .ptr 11 0 0), (3, .ptr 12 0 0), (4, .int .i64 i), (5, .ns 13 0 j), (6, .int .i64 j)] [(10, 1, [memoryC .bw ⟨cs⟩]), (11, 1, [[.nil]]), (12, 1, [[.sl .own 1 (cels .own (cs.take i))]]), (13, 2, writes .own (c.take j))] 14) (fun j => j ≤ c.length) (fun j => c.length - j) 0 (by simp) ?_ ?_
   ·refine Sub.shape [] id (by omega) ?_ ?_ ?_ ?_ <;> simp [qA3]
   ·rintro j hj
    simp only [go_sem, qA, qB, qC, qD, qE, qF, qG, qH, hcg]
    repeat refine K ?_
    refine qA2 (fun hc2 => ?_) (fun hc2 => ?_)
    ·simp only [decide_eq_true_eq] at hc2
     have hj' : j < c.length := by omega
     have hlt2 : (c.take j).length = j := by simp; omega
     have hw := hv _ (qAd c j default hj')
     simp only [go_sem, qA, qB, qC, qD, qE, qF, qG, qH, hcg, qA6 (i := j) (by omega), qAz .bw c j hj', hlt2]
     repeat refine K ?_
     refine qA8 (j + 1) ?_ hj' (by omega)
     refine Sub.trans (Sub.foldLast 17 1 15 rfl (by simp [-gD] <;> omega) rfl (by decide) (by decide) rfl) ?_
     simp only [fS, fS2, qA, qC, writes_next c j hj']
     refine Sub.shape [] (fun n => if n = 13 then 17 else n) (by omega) ?_ ?_ ?_ ?_ <;> simp [qA3]
    ·simp only [decide_eq_false_iff_not] at hc2
     obtain rfl : j = c.length := by omega
     have hie : c.take c.length = c := List.take_length
     simp only [go_sem, qA, qB, qC, qD, qE, qF, qG, qH, hie, qA6 (i := i) (by omega), hlt]
     repeat refine K ?_
     refine qA8 (i + 1) ?_ hl' (by omega)
     refine Sub.trans (Sub.foldLast 16 0 13 rfl (by simp [-gD] <;> omega) rfl (by decide) (by decide) rfl) ?_
     simp only [fS, fS2, qA, qC, hnx]
     refine Sub.trans (Sub.fold1 12 0 16 rfl (by simp [-gD] <;> omega) rfl (by decide) (by decide) rfl) ?_
     simp only [fS, fS2, qA, qC, List.length_take, Nat.min_eq_left (show i + 1 ≤ cs.length from hl')]
     refine Sub.shape [] id (by omega) ?_ ?_ ?_ ?_ <;> simp [qA3]
  ·simp only [decide_eq_false_iff_not] at hc
   have hie : cs.take i = cs := List.take_of_length_le (by omega)
   simp only [go_sem, qA, qB, qC, qD, qE, qF, qG, qH, hie]
   repeat refine K ?_
   refine ⟨_, Sub.refl _, qB5 ?_⟩; simp [-List.drop_one]
set_option maxHeartbeats 4000000 in
theorem l8Codes_ok (l : List (List Step)) (h1 : l.length < 2 ^ 40) (h2 : ∀ c ∈ l, c.length < 2 ^ 40) : CallOk Try.prog num 372 [.sl .bw 1 (codes .bw l)] [] (.sl .own 1 (codes .own l)) := by
 refine EN m372 Try.func65 ?_
 unfold m372
 simp only [go_sem, qA, qB, qC, qD, qE, qF, qG, qH]
 repeat refine K ?_
 refine qA7 (ι := Nat) (fun i => .mk [(0, .sl .bw 1 (codes .bw l)), (3, .ns 10 0 i), (4, .int .i64 i)] [(10, 1, codes .own (l.take i))] 11) (fun i => i ≤ l.length) (fun i => l.length - i) 0 (by simp) ?_ ?_
 ·refine Sub.shape [] id (by omega) ?_ ?_ ?_ ?_ <;> simp [qA3]
 ·rintro i hi
  simp only [go_sem, qA, qB, qC, qD, qE, qF, qG, qH]
  refine qA2 (fun hc => ?_) (fun hc => ?_)
  ·simp only [decide_eq_true_eq] at hc
   have hl' : i < l.length := by omega
   have hlt : (l.take i).length = i := by simp; omega
   have hr := h2 _ (qAd l i [] hl')
   simp only [go_sem, qA, qB, qC, qD, qE, qF, qG, qH, qA6 (i := i) (by omega), qB8 .bw l i hl', hlt]
   repeat refine K ?_
   refine qA8 (i + 1) ?_ hl' (by omega)
   refine Sub.trans (Sub.foldLast 14 0 12 rfl (by simp [-gD] <;> omega) rfl (by decide) (by decide) rfl) ?_
   simp only [fS, fS2, qA, qC, codes_next l i hl']
   refine Sub.shape [] (fun n => if n = 10 then 14 else n) (by omega) ?_ ?_ ?_ ?_ <;> simp [qA3]
  ·simp only [decide_eq_false_iff_not] at hc
   obtain rfl : i = l.length := by omega
   have hie : l.take l.length = l := List.take_length
   simp only [go_sem, qA, qB, qC, qD, qE, qF, qG, qH, hie]
   repeat refine K ?_
   refine fz ?_; simp [FinS, nilL, nilV, oneOr, -List.drop_one]
theorem l8Core_ok (k : Core) (h1 : k.regs.length < 2 ^ 40) (h2 : k.view.length < 2 ^ 40) : CallOk Try.prog num 374 [.agg (coreC .bw k)] [] (.agg (coreC .own k)) := by
 refine EN m374 Try.func67 ?_
 unfold m374
 simp only [go_sem, qA, qB, qC, qD, qE, qF, qG, qH]
 repeat refine K ?_
 refine ⟨_, Sub.refl _, qB5 ?_⟩; simp [-List.drop_one]
set_option maxHeartbeats 8000000 in
theorem qCc (m : Machine) (h : SmallM m) : CallOk Try.prog num 356 [.agg (machineC .bw m)] [] (.agg (machineC .own m)) := by
 obtain ⟨h1, h2, h3, h4, h5, h6, h7⟩ := h
 refine EN m356 Try.func28 ?_
 unfold m356
 apply hold1
 ·intro key
  repeat' (first
   | simp only [go_sem, qA, qB, qC, qD, qE, qF, qG, qH]
   | (refine DA [] (l8Codes_ok m.codes h1 h2) ?_)
   | (refine DA [] (l6Copy_ok m.mem.cells h6) ?_)
   | (refine K ?_)
   | (refine And.intro ?_ ?_)
   | fail)
  all_goals refine loops_mk (t := [(1, .ptr 10 0 0), (2, .ptr 11 0 0), (3, .ptr 12 0 0), (4, .int .i64 0)]) (h := [(10, 4, [machineC .bw m]), (11, 4, [[.nil, .nil, .nil, .nil]]), (12, 4, [[.sl .own 1 (codes .own m.codes), .nil, .sl .own 1 (cels .own m.mem.cells), .sl .own 2 (notes m.tr)]])]) (nx := 13) ?_ key.h
  all_goals (
   repeat' ((first | refine F1 12 0 13 ?_ | refine F1 12 0 14 ?_ | refine F1 12 0 15 ?_ | refine F1 12 0 16 ?_ | refine F1 12 2 13 ?_ | refine F1 12 2 14 ?_ | refine F1 12 2 15 ?_ | refine F1 12 2 16 ?_ | refine F1 12 3 13 ?_ | refine F1 12 3 14 ?_ | refine F1 12 3 15 ?_ | refine F1 12 3 16 ?_ | refine F1 13 0 12 ?_ | refine F1 13 0 14 ?_ | refine F1 13 0 15 ?_ | refine F1 13 0 16 ?_ | refine F1 13 2 12 ?_ | refine F1 13 2 14 ?_ | refine F1 13 2 15 ?_ | refine F1 13 2 16 ?_ | refine F1 13 3 12 ?_ | refine F1 13 3 14 ?_ | refine F1 13 3 15 ?_ | refine F1 13 3 16 ?_ | refine F1 14 0 12 ?_ | refine F1 14 0 13 ?_ | refine F1 14 0 15 ?_ | refine F1 14 0 16 ?_ | refine F1 14 2 12 ?_ | refine F1 14 2 13 ?_ | refine F1 14 2 15 ?_ | refine F1 14 2 16 ?_ | refine F1 14 3 12 ?_ | refine F1 14 3 13 ?_ | refine F1 14 3 15 ?_ | refine F1 14 3 16 ?_ | refine F1 15 0 12 ?_ | refine F1 15 0 13 ?_ | refine F1 15 0 14 ?_ | refine F1 15 0 16 ?_ | refine F1 15 2 12 ?_ | refine F1 15 2 13 ?_ | refine F1 15 2 14 ?_ | refine F1 15 2 16 ?_ | refine F1 15 3 12 ?_ | refine F1 15 3 13 ?_ | refine F1 15 3 14 ?_ | refine F1 15 3 16 ?_ | refine F1 16 0 12 ?_ | refine F1 16 0 13 ?_ | refine F1 16 0 14 ?_ | refine F1 16 0 15 ?_ | refine F1 16 2 12 ?_ | refine F1 16 2 13 ?_ | refine F1 16 2 14 ?_ | refine F1 16 2 15 ?_ | refine F1 16 3 12 ?_ | refine F1 16 3 13 ?_ | refine F1 16 3 14 ?_ | refine F1 16 3 15 ?_ | fail); simp only [fS, fS2, fS2, qA, qC])
   first
    | (refine Sub.shape [] (fun n => if n = 12 then 12 else n) (by omega) ?_ ?_ ?_ ?_ <;> (simp [qA3]; done))
    | (refine Sub.shape [] (fun n => if n = 12 then 13 else n) (by omega) ?_ ?_ ?_ ?_ <;> (simp [qA3]; done))
    | (refine Sub.shape [] (fun n => if n = 12 then 14 else n) (by omega) ?_ ?_ ?_ ?_ <;> (simp [qA3]; done))
    | (refine Sub.shape [] (fun n => if n = 12 then 15 else n) (by omega) ?_ ?_ ?_ ?_ <;> (simp [qA3]; done))
    | (refine Sub.shape [] (fun n => if n = 12 then 16 else n) (by omega) ?_ ?_ ?_ ?_ <;> (simp [qA3]; done)))
 refine qA7 (ι := Nat) (fun i => .mk [(1, .ptr 10 0 0), (2, .ptr 11 0 0), (3, .ptr 12 0 0), (4, .int .i64 i)] [(10, 4, [machineC .bw m]), (11, 4, [[.nil, .nil, .nil, .nil]]), (12, 4, [[.sl .own 1 (codes .own m.codes), .sl .own 4 (cores .own (m.cores.take i)), .sl .own 1 (cels .own m.mem.cells), .sl .own 2 (notes m.tr)]])] 13) (fun i => i ≤ m.cores.length) (fun i => m.cores.length - i) 0 (by simp) ?_ ?_
 ·refine Sub.shape [] id (by omega) ?_ ?_ ?_ ?_ <;> simp [qA3]
 ·rintro i hi
  simp only [go_sem, qA, qB, qC, qD, qE, qF, qG, qH]
  repeat refine K ?_
  refine qA2 (fun hc => ?_) (fun hc => ?_)
  ·simp only [decide_eq_true_eq] at hc
   have hl' : i < m.cores.length := by omega
   have hlt : (m.cores.take i).length = i := by simp; omega
   have hr := h4 _ (qAd m.cores i default hl')
   have hv := h5 _ (qAd m.cores i default hl')
   simp only [go_sem, qA, qB, qC, qD, qE, qF, qG, qH, qA6 (i := i) (by omega), qAl .bw m.cores i hl', hlt]
   repeat refine K ?_
   refine DA [] (l8Core_ok (m.cores.getD i default) hr hv) ?_
   try simp only [go_sem, qA, qB, qC, qD, qE, qF, qG, qH]
   repeat refine K ?_
   simp only [go_sem, qA, qB, qC, qD, qE, qF, qG, qH, qA6 (i := i) (by omega), hlt]
   repeat refine K ?_
   refine qA8 (i + 1) ?_ hl' (by omega)
   refine Sub.trans (Sub.foldLast 17 1 14 rfl (by simp [-gD] <;> omega) rfl (by decide) (by decide) rfl) ?_
   simp only [fS, fS2, qA, qC]
   refine Sub.trans (Sub.foldLast 17 2 15 rfl (by simp [-gD] <;> omega) rfl (by decide) (by decide) rfl) ?_
   simp only [fS, fS2, qA, qC, cores_next m.cores i hl']
   refine Sub.trans (Sub.fold1 12 1 17 rfl (by simp [-gD] <;> omega) rfl (by decide) (by decide) rfl) ?_
   simp only [fS, fS2, qA, qC, List.length_take, Nat.min_eq_left (show i + 1 ≤ m.cores.length from hl')]
   refine Sub.shape [] id (by omega) ?_ ?_ ?_ ?_ <;> simp [qA3]
  ·simp only [decide_eq_false_iff_not] at hc
   have hie : m.cores.take i = m.cores := List.take_of_length_le (by omega)
   simp only [go_sem, qA, qB, qC, qD, qE, qF, qG, qH, hie]
   repeat refine K ?_
   refine ⟨_, Sub.refl _, qB5 ?_⟩; simp [-List.drop_one]
set_option maxHeartbeats 8000000 in
theorem copyMachine_ok (m : Machine) (h : SmallM m) : CallOk Try.prog num 358 [.agg (machineC .bw m)] [] (.agg (machineC .own m)) := by
 obtain ⟨h1, h2, h3, h4, h5, h6, h7⟩ := h
 refine EN m358 Try.func35 ?_
 unfold m358
 apply hold1
 ·intro key
  repeat' (first
   | simp only [go_sem, qA, qB, qC, qD, qE, qF, qG, qH]
   | (refine DA [] (copyMemory_ok m.mem.cells h6) ?_)
   | (refine DA [] (copyNotes_ok m.tr (by omega)) ?_)
   | (refine K ?_)
   | (refine And.intro ?_ ?_)
   | fail)
  all_goals refine loops_mk (t := [(1, .ptr 10 0 0), (2, .ptr 11 0 0), (3, .ptr 12 0 0), (16, .sl .bw 1 (codes .bw m.codes)), (17, .int .i64 m.codes.length), (18, .int .i64 0)]) (h := [(10, 4, [machineC .bw m]), (11, 4, [[.nil, .nil, .nil, .nil]]), (12, 4, [[.nil, .nil, .sl .own 1 (cels .own m.mem.cells), .sl .own 2 (notes m.tr)]])]) (nx := 13) ?_ key.h
  all_goals (
   repeat' ((first | refine F1 12 2 13 ?_ | refine F1 12 2 14 ?_ | refine F1 12 2 15 ?_ | refine F1 12 3 13 ?_ | refine F1 12 3 14 ?_ | refine F1 12 3 15 ?_ | refine F1 13 2 12 ?_ | refine F1 13 2 14 ?_ | refine F1 13 2 15 ?_ | refine F1 13 3 12 ?_ | refine F1 13 3 14 ?_ | refine F1 13 3 15 ?_ | refine F1 14 2 12 ?_ | refine F1 14 2 13 ?_ | refine F1 14 2 15 ?_ | refine F1 14 3 12 ?_ | refine F1 14 3 13 ?_ | refine F1 14 3 15 ?_ | refine F1 15 2 12 ?_ | refine F1 15 2 13 ?_ | refine F1 15 2 14 ?_ | refine F1 15 3 12 ?_ | refine F1 15 3 13 ?_ | refine F1 15 3 14 ?_ | fail); simp only [fS, fS2, fS2, qA, qC])
   first
    | (refine Sub.shape [] (fun n => if n = 12 then 12 else n) (by omega) ?_ ?_ ?_ ?_ <;> (simp [qA3]; done))
    | (refine Sub.shape [] (fun n => if n = 12 then 13 else n) (by omega) ?_ ?_ ?_ ?_ <;> (simp [qA3]; done))
    | (refine Sub.shape [] (fun n => if n = 12 then 14 else n) (by omega) ?_ ?_ ?_ ?_ <;> (simp [qA3]; done))
    | (refine Sub.shape [] (fun n => if n = 12 then 15 else n) (by omega) ?_ ?_ ?_ ?_ <;> (simp [qA3]; done)))
 refine qA7 (ι := Nat) (fun i => .mk [(1, .ptr 10 0 0), (2, .ptr 11 0 0), (3, .ptr 12 0 0), (16, .sl .bw 1 (codes .bw m.codes)), (17, .int .i64 m.codes.length), (18, .int .i64 i)] [(10, 4, [machineC .bw m]), (11, 4, [[.nil, .nil, .nil, .nil]]), (12, 4, [[.sl .own 1 (codes .own (m.codes.take i)), .nil, .sl .own 1 (cels .own m.mem.cells), .sl .own 2 (notes m.tr)]])] 13) (fun i => i ≤ m.codes.length) (fun i => m.codes.length - i) 0 (by simp) ?_ ?_
 ·refine Sub.shape [] id (by omega) ?_ ?_ ?_ ?_ <;> simp [qA3]
 ·rintro i hi
  simp only [go_sem, qA, qB, qC, qD, qE, qF, qG, qH]
  repeat refine K ?_
  refine qA2 (fun hc => ?_) (fun hc => ?_)
  ·simp only [decide_eq_true_eq] at hc
   have hl' : i < m.codes.length := by omega
   have hlt : (m.codes.take i).length = i := by simp; omega
   have hr := h2 _ (qAd m.codes i [] hl')
   simp only [go_sem, qA, qB, qC, qD, qE, qF, qG, qH, qA6 (i := i) (by omega), qB8 .bw m.codes i hl', hlt]
   repeat refine K ?_
   refine qA8 (i + 1) ?_ hl' (by omega)
   refine Sub.trans (Sub.foldLast 17 0 15 rfl (by simp [-gD] <;> omega) rfl (by decide) (by decide) rfl) ?_
   simp only [fS, fS2, qA, qC, codes_next m.codes i hl']
   refine Sub.trans (Sub.fold1 12 0 17 rfl (by simp [-gD] <;> omega) rfl (by decide) (by decide) rfl) ?_
   simp only [fS, fS2, qA, qC, List.length_take, Nat.min_eq_left (show i + 1 ≤ m.codes.length from hl')]
   refine Sub.shape [] id (by omega) ?_ ?_ ?_ ?_ <;> simp [qA3]
  ·simp only [decide_eq_false_iff_not] at hc
   have hie : m.codes.take i = m.codes := List.take_of_length_le (by omega)
   simp only [go_sem, qA, qB, qC, qD, qE, qF, qG, qH, hie]
   repeat refine K ?_
   refine qA7 (ι := Nat) (fun i => .mk [(2, .ptr 11 0 0), (3, .ptr 12 0 0), (32, .sl .bw 4 (cores .bw m.cores)), (33, .int .i64 m.cores.length), (34, .int .i64 i)] [(11, 4, [[.nil, .nil, .nil, .nil]]), (12, 4, [[.sl .own 1 (codes .own m.codes), .sl .own 4 (cores .own (m.cores.take i)), .sl .own 1 (cels .own m.mem.cells), .sl .own 2 (notes m.tr)]])] 13) (fun i => i ≤ m.cores.length) (fun i => m.cores.length - i) 0 (by simp) ?_ ?_
   ·refine Sub.shape [] id (by omega) ?_ ?_ ?_ ?_ <;> simp [qA3]
   ·rintro i hi
    simp only [go_sem, qA, qB, qC, qD, qE, qF, qG, qH]
    repeat refine K ?_
    refine qA2 (fun hc => ?_) (fun hc => ?_)
    ·simp only [decide_eq_true_eq] at hc
     have hl' : i < m.cores.length := by omega
     have hlt : (m.cores.take i).length = i := by simp; omega
     have hr := h4 _ (qAd m.cores i default hl')
     have hv := h5 _ (qAd m.cores i default hl')
     simp only [go_sem, qA, qB, qC, qD, qE, qF, qG, qH, qA6 (i := i) (by omega), qAl .bw m.cores i hl', hlt]
     repeat refine K ?_
     refine DA [] (qCf (m.cores.getD i default).regs (by omega)) ?_
     try simp only [go_sem, qA, qB, qC, qD, qE, qF, qG, qH]
     repeat refine K ?_
     refine DA [] (qCf (m.cores.getD i default).view (by omega)) ?_
     try simp only [go_sem, qA, qB, qC, qD, qE, qF, qG, qH]
     repeat refine K ?_
     simp only [go_sem, qA, qB, qC, qD, qE, qF, qG, qH, qA6 (i := i) (by omega), hlt]
     repeat refine K ?_
     refine qA8 (i + 1) ?_ hl' (by omega)
     refine Sub.trans (Sub.foldLast 18 1 15 rfl (by simp [-gD] <;> omega) rfl (by decide) (by decide) rfl) ?_
     simp only [fS, fS2, qA, qC]
     refine Sub.trans (Sub.foldLast 18 2 16 rfl (by simp [-gD] <;> omega) rfl (by decide) (by decide) rfl) ?_
     simp only [fS, fS2, qA, qC, cores_next m.cores i hl']
     refine Sub.trans (Sub.fold1 12 1 18 rfl (by simp [-gD] <;> omega) rfl (by decide) (by decide) rfl) ?_
     simp only [fS, fS2, qA, qC, List.length_take, Nat.min_eq_left (show i + 1 ≤ m.cores.length from hl')]
     refine Sub.shape [] id (by omega) ?_ ?_ ?_ ?_ <;> simp [qA3]
    ·simp only [decide_eq_false_iff_not] at hc
     have hie : m.cores.take i = m.cores := List.take_of_length_le (by omega)
     simp only [go_sem, qA, qB, qC, qD, qE, qF, qG, qH, hie]
     repeat refine K ?_
     refine ⟨_, Sub.refl _, qB5 ?_⟩; simp [-List.drop_one]
end Go.Sep
