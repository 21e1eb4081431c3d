/- Contracts of functions. -/
import Derived.Test.YtoijhndfkfliiaaConD
import Derived.Test.YtoijhndfkfliiaaConc
import Derived.Test.YtoijhndfkfliiaaCond
namespace Go.Sep
open Go.Proofs
set_option linter.unusedSimpArgs false
set_option linter.unusedVariables false
set_option maxRecDepth 100000
def m217 : MFn := ⟨22, [.t 2], .seq (xr [xo 1 (.box (.t 0)), xo 2 (.mv (.c (.nil)))]) (.seq (.seq (xr [xo 3 (.fad 0 (.t 1)), xo 4 (.load 1 false (.t 3))]) (.blk 0 (.seq (.seq (xr [xo 6 (.bin .eql (.t 4) (xi 1)), xv 5 6]) (.cond 5 (.skip) (.seq (xr [xo 7 (.bin .eql (.t 4) (xi 2)), xv 5 7]) (.cond 5 (.skip) (.seq (xr [xo 8 (.bin .eql (.t 4) (xi 3)), xv 5 8]) (.cond 5 (.skip) (.seq (xr [xo 9 (.bin .eql (.t 4) (xi 4)), xv 5 9]) (.cond 5 (.skip) (xr [xo 10 (.bin .eql (.t 4) (xi 7)), xv 5 10]))))))))) (.cond 5 (.seq (xr [xo 11 (.fad 1 (.t 1)), xo 12 (.load 1 false (.t 11)), xo 13 (.mkSl [xz] 1 [(0, .t 12)]), xv 2 13]) (.ret)) (.seq (.seq (xr [xo 15 (.bin .eql (.t 4) (xi 6)), xv 14 15]) (.cond 14 (.skip) (xr [xo 16 (.bin .eql (.t 4) (xi 8)), xv 14 16]))) (.cond 14 (.seq (xr [xo 17 (.fad 1 (.t 1)), xo 18 (.load 1 false (.t 17)), xo 19 (.fad 3 (.t 1)), xo 20 (.load 1 false (.t 19)), xo 21 (.mkSl [xz] 2 [(0, .t 18), (1, .t 20)]), xv 2 21]) (.ret)) (.skip))))))) (.seq (xr [xo 2 (.mv (.c (.nil)))]) (.ret)))⟩
theorem c217 : chkC Try.prog num Try.f120.ntmps m217.body ((Try.f120.body).getD .skip) = true := by kernel_rfl
def m290 : MFn := ⟨88, [.cell 6 5 true], .seq (xr [xo 3 (.box (.t 0)), xo 6 (.alloc [xz, xz, xz, xz, xz])]) (.seq (.seq (xr [xv 8 1, xo 9 (.len (.t 8)), xo 10 (.bin .neq (.t 9) (xi 4)), xv 11 10, xg 12 (.fad 2 (.t 3)) 11 false, xg 13 (.load 1 false (.t 12)) 11 false, xg 14 (.call 64 [false, false, false] [.t 13, xi 0, xi 3]) 11 false, xg 15 (.un .«not» (.t 14)) 11 false, xo 16 (.pick (.t 11) (.c (.bool true)) (.t 15)), xv 17 16, xg 18 (.fad 3 (.t 3)) 17 false, xg 19 (.load 1 false (.t 18)) 17 false, xg 20 (.call 64 [false, false, false] [.t 19, xi 0, xi 3]) 17 false, xg 21 (.un .«not» (.t 20)) 17 false, xo 22 (.pick (.t 17) (.c (.bool true)) (.t 21))]) (.cond 22 (.seq (xr [xo 23 (.load 5 true (.t 3)), ⟨none, .store 5 (.t 6) (.t 23), none⟩]) (.ret)) (.skip))) (.seq (.seq (xr [xo 24 (.fad 0 (.t 3)), xo 25 (.load 1 false (.t 24)), xo 26 (.call 328 [false] [.t 25]), xv 27 26, xg 28 (.mv (.t 1)) 27 true, xg 29 (.fad 2 (.t 3)) 27 true, xg 30 (.load 1 false (.t 29)) 27 true, xg 31 (.iad 2 (.t 28) (.t 30)) 27 true, xg 32 (.fad 0 (.t 31)) 27 true, xg 33 (.load 1 false (.t 32)) 27 true, xo 34 (.pick (.t 27) (.t 33) (.c (.bool false))), xv 35 34, xg 36 (.mv (.t 1)) 35 true, xg 37 (.fad 3 (.t 3)) 35 true, xg 38 (.load 1 false (.t 37)) 35 true, xg 39 (.iad 2 (.t 36) (.t 38)) 35 true, xg 40 (.fad 0 (.t 39)) 35 true, xg 41 (.load 1 false (.t 40)) 35 true, xo 42 (.pick (.t 35) (.t 41) (.c (.bool false)))]) (.cond 42 (.seq (.dreg (.take 0 (xo 43 (.fad 0 (.t 3))) (.take 1 (xo 44 (.load 1 false (.t 43))) (.take 2 (xv 45 1) (.take 3 (xo 46 (.fad 2 (.t 3))) (.take 4 (xo 47 (.load 1 false (.t 46))) (.take 5 (xo 48 (.iad 2 (.t 45) (.t 47))) (.take 6 (xo 49 (.fad 1 (.t 48))) (.take 7 (xo 50 (.load 1 false (.t 49))) (.take 8 (xv 51 1) (.only 9 [] (xo 52 (.fad 3 (.t 3))) (.only 10 [] (xo 53 (.load 1 false (.t 52))) (.only 11 [8] (xo 54 (.iad 2 (.t 51) (.t 53))) (.only 12 [] (xo 55 (.fad 1 (.t 54))) (.only 13 [] (xo 56 (.load 1 false (.t 55))) (.only 14 [1, 7] (xo 57 (.call 329 [false, false, false] [.t 44, .t 50, .t 56])) (.only 15 [0, 1, 2, 3, 4, 5, 6, 7, 8] (xv 7 57) (.done)))))))))))))))))) (.seq (xr [xv 58 7, xo 59 (.call 64 [false, false, false] [.t 58, .c (.int .i64 (-1000000000)), xi 1000000000])]) (.cond 59 (.seq (xr [xo 60 (.fad 1 (.t 3)), xo 61 (.load 1 false (.t 60)), xv 62 7, xo 63 (.build [xz, xz, xz, xz, xz] [(0, 1, xi 1), (1, 1, .t 61), (4, 1, .t 62)]), ⟨none, .store 5 (.t 6) (.t 63), none⟩]) (.ret)) (.skip)))) (.skip))) (.seq (.seq (xr [xo 64 (.fad 0 (.t 3)), xo 65 (.load 1 false (.t 64)), xo 66 (.bin .eql (.t 65) (xi 12)), xv 67 66, xg 68 (.mv (.t 1)) 67 true, xg 69 (.fad 2 (.t 3)) 67 true, xg 70 (.load 1 false (.t 69)) 67 true, xg 71 (.iad 2 (.t 68) (.t 70)) 67 true, xg 72 (.fad 0 (.t 71)) 67 true, xg 73 (.load 1 false (.t 72)) 67 true, xo 74 (.pick (.t 67) (.t 73) (.c (.bool false)))]) (.cond 74 (.seq (.seq (xr [xv 75 1, xo 76 (.fad 2 (.t 3)), xo 77 (.load 1 false (.t 76)), xo 78 (.iad 2 (.t 75) (.t 77)), xo 79 (.fad 1 (.t 78)), xo 80 (.load 1 false (.t 79)), xo 81 (.bin .eql (.t 80) (xi 0))]) (.cond 81 (.seq (xr [xo 82 (.fad 4 (.t 3)), xo 83 (.load 1 false (.t 82)), xo 84 (.build [xz, xz, xz, xz, xz] [(0, 1, xi 11), (4, 1, .t 83)]), ⟨none, .store 5 (.t 6) (.t 84), none⟩]) (.ret)) (.skip))) (.seq (xr [xv 85 2, xo 86 (.build [xz, xz, xz, xz, xz] [(0, 1, xi 11), (4, 1, .t 85)]), ⟨none, .store 5 (.t 6) (.t 86), none⟩]) (.ret))) (.skip))) (.seq (xr [xo 87 (.load 5 true (.t 3)), ⟨none, .store 5 (.t 6) (.t 87), none⟩]) (.ret)))))⟩
theorem c290 : chkC Try.prog num Try.f237.ntmps m290.body ((Try.f237.body).getD .skip) = true := by kernel_rfl
def m292 : MFn := ⟨79, [.cell 6 5 true], .seq (xr [xo 3 (.box (.t 0)), xo 6 (.alloc [xz, xz, xz, xz, xz])]) (.seq (.seq (xr [xv 10 1, xo 11 (.len (.t 10)), xo 12 (.bin .neq (.t 11) (xi 4)), xv 13 12, xg 14 (.fad 2 (.t 3)) 13 false, xg 15 (.load 1 false (.t 14)) 13 false, xg 16 (.call 97 [false] [.t 15]) 13 false, xg 17 (.un .«not» (.t 16)) 13 false, xo 18 (.pick (.t 13) (.c (.bool true)) (.t 17)), xv 19 18, xg 20 (.fad 3 (.t 3)) 19 false, xg 21 (.load 1 false (.t 20)) 19 false, xg 22 (.call 97 [false] [.t 21]) 19 false, xg 23 (.un .«not» (.t 22)) 19 false, xo 24 (.pick (.t 19) (.c (.bool true)) (.t 23)), xv 25 24, xg 26 (.mv (.t 1)) 25 false, xg 27 (.fad 2 (.t 3)) 25 false, xg 28 (.load 1 false (.t 27)) 25 false, xg 29 (.iad 2 (.t 26) (.t 28)) 25 false, xg 30 (.fad 0 (.t 29)) 25 false, xg 31 (.load 1 false (.t 30)) 25 false, xg 32 (.un .«not» (.t 31)) 25 false, xo 33 (.pick (.t 25) (.c (.bool true)) (.t 32))]) (.cond 33 (.seq (xr [xo 34 (.load 5 true (.t 3)), ⟨none, .store 5 (.t 6) (.t 34), none⟩]) (.ret)) (.skip))) (.seq (.dreg (.take 0 (xv 35 1) (.take 1 (xo 36 (.fad 2 (.t 3))) (.take 2 (xo 37 (.load 1 false (.t 36))) (.take 3 (xo 38 (.iad 2 (.t 35) (.t 37))) (.take 4 (xo 39 (.load 2 true (.t 38))) (.take 5 (xv 40 1) (.take 6 (xo 41 (.fad 3 (.t 3))) (.take 7 (xo 42 (.load 1 false (.t 41))) (.take 8 (xo 43 (.iad 2 (.t 40) (.t 42))) (.take 9 (xo 44 (.load 2 true (.t 43))) (.both 10 [] (xo 7 (.alloc [.bool false, .int .i64 0])) (.only 11 [] (xo 8 (.alloc [.bool false, .int .i64 0])) (.only 12 [0, 1, 2, 3, 4] ⟨none, .store 2 (.t 7) (.t 39), none⟩ (.only 13 [0, 1, 2, 3, 4, 5, 6, 7, 8, 9] ⟨none, .store 2 (.t 8) (.t 44), none⟩ (.done)))) 11 [] (xo 8 (.alloc [.bool false, .int .i64 0])) (.only 10 [] (xo 7 (.alloc [.bool false, .int .i64 0])) (.only 12 [0, 1, 2, 3, 4] ⟨none, .store 2 (.t 7) (.t 39), none⟩ (.only 13 [0, 1, 2, 3, 4, 5, 6, 7, 8, 9] ⟨none, .store 2 (.t 8) (.t 44), none⟩ (.done)))))))))))))))) (.seq (.seq (xr [xo 45 (.fad 0 (.t 3)), xo 46 (.load 1 false (.t 45))]) (.blk 0 (.seq (.seq (xr [xo 48 (.bin .eql (.t 46) (xi 2)), xv 47 48]) (.cond 47 (.skip) (.seq (xr [xo 49 (.bin .eql (.t 46) (xi 3)), xv 47 49]) (.cond 47 (.skip) (xr [xo 50 (.bin .eql (.t 46) (xi 4)), xv 47 50]))))) (.cond 47 (.seq (xr [xo 51 (.fad 0 (.t 3)), xo 52 (.load 1 false (.t 51)), xo 53 (.fad 1 (.t 7)), xo 54 (.load 1 false (.t 53)), xo 55 (.fad 1 (.t 8)), xo 56 (.load 1 false (.t 55)), xo 57 (.call 60 [false, false, false] [.t 52, .t 54, .t 56]), xv 9 57]) (.seq (xr [xo 58 (.fad 0 (.t 8)), xo 59 (.load 1 false (.t 58)), xv 60 59, xg 61 (.mv (.t 9)) 60 true, xg 62 (.call 59 [false, false, false] [.t 61, .c (.int .i64 (-1000000000)), xi 1000000000]) 60 true, xo 63 (.pick (.t 60) (.t 62) (.c (.bool false)))]) (.cond 63 (.seq (xr [xo 64 (.fad 1 (.t 3)), xo 65 (.load 1 false (.t 64)), xv 66 9, xo 67 (.build [xz, xz, xz, xz, xz] [(0, 1, xi 1), (1, 1, .t 65), (4, 1, .t 66)]), ⟨none, .store 5 (.t 6) (.t 67), none⟩]) (.ret)) (.skip)))) (.seq (xr [xo 69 (.bin .eql (.t 46) (xi 12)), xv 68 69]) (.cond 68 (.seq (.seq (xr [xo 70 (.fad 1 (.t 7)), xo 71 (.load 1 false (.t 70)), xo 72 (.bin .eql (.t 71) (xi 0))]) (.cond 72 (.seq (xr [xo 73 (.fad 4 (.t 3)), xo 74 (.load 1 false (.t 73)), xo 75 (.build [xz, xz, xz, xz, xz] [(0, 1, xi 11), (4, 1, .t 74)]), ⟨none, .store 5 (.t 6) (.t 75), none⟩]) (.ret)) (.skip))) (.seq (xr [xv 76 2, xo 77 (.build [xz, xz, xz, xz, xz] [(0, 1, xi 11), (4, 1, .t 76)]), ⟨none, .store 5 (.t 6) (.t 77), none⟩]) (.ret))) (.skip))))))) (.seq (xr [xo 78 (.load 5 true (.t 3)), ⟨none, .store 5 (.t 6) (.t 78), none⟩]) (.ret)))))⟩
theorem c292 : chkC Try.prog num Try.f239.ntmps m292.body ((Try.f239.body).getD .skip) = true := by kernel_rfl
def m325 : MFn := ⟨76, [.t 4], .seq (xr [xo 2 (.box (.t 0)), xo 4 (.mv (.c (.nil)))]) (.seq (xr [xo 8 (.mkSl [.bool false, .int .i64 0] 0 []), xv 9 1, xo 10 (.app 2 16 (.t 8) (.t 9)), xv 5 10]) (.seq (xr [xo 11 (.load 5 true (.t 2)), xo 12 (.call 344 [false] [.t 11]), xv 6 12]) (.seq (.seq (xr [xo 7 (.mv (xi 0))]) (.blk 0 (.loop (.seq (.seq (xr [xv 13 7, xv 14 6, xo 15 (.len (.t 14)), xo 16 (.bin .lss (.t 13) (.t 15))]) (.cond 16 (.skip) (.exit 0))) (.seq (.blk 1 (xr [xv 19 5, xv 20 6, xv 21 7, xo 22 (.iad 1 (.t 20) (.t 21)), xo 23 (.load 1 false (.t 22)), xo 24 (.build [.bool false, .int .i64 0] []), xo 25 (.iad 2 (.t 19) (.t 23)), ⟨none, .store 2 (.t 25) (.t 24), none⟩])) (xr [xv 17 7, xo 18 (.bin .add (.t 17) (xi 1)), xv 7 18])))))) (.seq (.seq (xr [xo 26 (.fad 0 (.t 2)), xo 27 (.load 1 false (.t 26)), xo 28 (.bin .eql (.t 27) (xi 1))]) (.cond 28 (xr [xv 29 5, xo 30 (.fad 1 (.t 2)), xo 31 (.load 1 false (.t 30)), xo 32 (.fad 4 (.t 2)), xo 33 (.load 1 false (.t 32)), xo 34 (.build [.bool false, .int .i64 0] [(0, 1, .c (.bool true)), (1, 1, .t 33)]), xo 35 (.iad 2 (.t 29) (.t 31)), ⟨none, .store 2 (.t 35) (.t 34), none⟩]) (.skip))) (.seq (.seq (xr [xo 36 (.fad 0 (.t 2)), xo 37 (.load 1 false (.t 36)), xo 38 (.call 328 [false] [.t 37]), xv 39 38, xg 40 (.mv (.t 1)) 39 true, xg 41 (.fad 2 (.t 2)) 39 true, xg 42 (.load 1 false (.t 41)) 39 true, xg 43 (.iad 2 (.t 40) (.t 42)) 39 true, xg 44 (.fad 0 (.t 43)) 39 true, xg 45 (.load 1 false (.t 44)) 39 true, xo 46 (.pick (.t 39) (.t 45) (.c (.bool false))), xv 47 46, xg 48 (.mv (.t 1)) 47 true, xg 49 (.fad 3 (.t 2)) 47 true, xg 50 (.load 1 false (.t 49)) 47 true, xg 51 (.iad 2 (.t 48) (.t 50)) 47 true, xg 52 (.fad 0 (.t 51)) 47 true, xg 53 (.load 1 false (.t 52)) 47 true, xo 54 (.pick (.t 47) (.t 53) (.c (.bool false)))]) (.cond 54 (.dreg (.take 0 (xv 55 5) (.take 1 (xo 56 (.fad 1 (.t 2))) (.take 2 (xo 57 (.load 1 false (.t 56))) (.take 3 (xo 58 (.fad 0 (.t 2))) (.take 4 (xo 59 (.load 1 false (.t 58))) (.take 5 (xv 60 1) (.take 6 (xo 61 (.fad 2 (.t 2))) (.take 7 (xo 62 (.load 1 false (.t 61))) (.take 8 (xo 63 (.iad 2 (.t 60) (.t 62))) (.take 9 (xo 64 (.fad 1 (.t 63))) (.take 10 (xo 65 (.load 1 false (.t 64))) (.take 11 (xv 66 1) (.only 12 [] (xo 67 (.fad 3 (.t 2))) (.only 13 [] (xo 68 (.load 1 false (.t 67))) (.only 14 [11] (xo 69 (.iad 2 (.t 66) (.t 68))) (.only 15 [] (xo 70 (.fad 1 (.t 69))) (.only 16 [] (xo 71 (.load 1 false (.t 70))) (.only 17 [4, 10] (xo 72 (.call 329 [false, false, false] [.t 59, .t 65, .t 71])) (.only 18 [] (xo 73 (.build [.bool false, .int .i64 0] [(0, 1, .c (.bool true)), (1, 1, .t 72)])) (.only 19 [0, 1, 2, 3, 4, 5, 6, 7, 8, 9, 10, 11] (xo 74 (.iad 2 (.t 55) (.t 57))) (.only 20 [0, 1, 2, 3, 4, 5, 6, 7, 8, 9, 10, 11] ⟨none, .store 2 (.t 74) (.t 73), none⟩ (.done))))))))))))))))))))))) (.skip))) (.seq (xr [xv 75 5, xv 4 75]) (.ret)))))))⟩
theorem c325 : chkC Try.prog num Try.f285.ntmps m325.body ((Try.f285.body).getD .skip) = true := by kernel_rfl
def m327 : MFn := ⟨40, [.t 4, .t 5], .seq (xr [xo 4 (.mv (.c (.nil))), xo 5 (.mv (.c (.bool false)))]) (.seq (xr [xo 9 (.mkSl [.bool false, .int .i64 0] 0 []), xv 10 0, xo 11 (.app 2 16 (.t 9) (.t 10)), xv 6 11]) (.seq (xr [xo 7 (.mv (.c (.bool false)))]) (.seq (.seq (xr [xo 8 (.mv (xi 0))]) (.blk 0 (.loop (.seq (.seq (xr [xv 12 8, xv 13 0, xo 14 (.len (.t 13)), xo 15 (.bin .lss (.t 12) (.t 14))]) (.cond 15 (.skip) (.exit 0))) (.seq (.blk 1 (.seq (.dreg (.take 0 (xv 18 0) (.only 1 [] (xv 19 8) (.only 2 [0] (xo 20 (.iad 2 (.t 18) (.t 19))) (.only 3 [] (xo 21 (.fad 0 (.t 20))) (.only 4 [] (xo 22 (.load 1 false (.t 21))) (.only 5 [] (xv 23 22) (.take 6 (xg 24 (.mv (.t 0)) 23 true) (.take 7 (xg 25 (.mv (.t 8)) 23 true) (.take 8 (xg 26 (.iad 2 (.t 24) (.t 25)) 23 true) (.take 9 (xg 27 (.load 2 true (.t 26)) 23 true) (.take 10 (xg 28 (.mv (.t 1)) 23 true) (.only 11 [] (xg 29 (.mv (.t 8)) 23 true) (.only 12 [10] (xg 30 (.iad 2 (.t 28) (.t 29)) 23 true) (.only 13 [] (xg 31 (.load 2 true (.t 30)) 23 true) (.only 14 [9] (xg 32 (.eqS true [false, true] (.t 27) (.t 31)) 23 true) (.only 15 [] (xo 33 (.pick (.t 23) (.t 32) (.c (.bool false)))) (.done)))))))))))))))))) (.cond 33 (.seq (xr [xv 34 6, xv 35 8, xo 36 (.build [.bool false, .int .i64 0] []), xo 37 (.iad 2 (.t 34) (.t 35)), ⟨none, .store 2 (.t 37) (.t 36), none⟩]) (xr [xo 7 (.mv (.c (.bool true)))])) (.skip)))) (xr [xv 16 8, xo 17 (.bin .add (.t 16) (xi 1)), xv 8 17])))))) (.seq (xr [xv 38 6, xv 39 7, xv 4 38, xv 5 39]) (.ret)))))⟩
theorem c327 : chkC Try.prog num Try.f287.ntmps m327.body ((Try.f287.body).getD .skip) = true := by kernel_rfl
def m328 : MFn := ⟨13, [.t 2], .seq (xr [xo 2 (.mv (.c (.bool false)))]) (.seq (xr [xv 3 0, xo 4 (.bin .eql (.t 3) (xi 2)), xv 5 4, xg 6 (.mv (.t 0)) 5 false, xg 7 (.bin .eql (.t 6) (xi 3)) 5 false, xo 8 (.pick (.t 5) (.c (.bool true)) (.t 7)), xv 9 8, xg 10 (.mv (.t 0)) 9 false, xg 11 (.bin .eql (.t 10) (xi 4)) 9 false, xo 12 (.pick (.t 9) (.c (.bool true)) (.t 11)), xv 2 12]) (.ret))⟩
theorem c328 : chkC Try.prog num Try.f288.ntmps m328.body ((Try.f288.body).getD .skip) = true := by kernel_rfl
def m329 : MFn := ⟨22, [.t 6], .seq (xr [xo 6 (.mv (xi 0))]) (.seq (.seq (xr [xv 7 0]) (.blk 0 (.seq (xr [xo 9 (.bin .eql (.t 7) (xi 2)), xv 8 9]) (.cond 8 (.seq (xr [xv 10 1, xv 11 2, xo 12 (.bin .add (.t 10) (.t 11)), xv 6 12]) (.ret)) (.seq (xr [xo 14 (.bin .eql (.t 7) (xi 3)), xv 13 14]) (.cond 13 (.seq (xr [xv 15 1, xv 16 2, xo 17 (.bin .sub (.t 15) (.t 16)), xv 6 17]) (.ret)) (.skip))))))) (.seq (xr [xv 18 1, xv 19 2, xo 20 (.bin .lss (.t 18) (.t 19)), xo 21 (.call 85 [false] [.t 20]), xv 6 21]) (.ret)))⟩
theorem c329 : chkC Try.prog num Try.f289.ntmps m329.body ((Try.f289.body).getD .skip) = true := by kernel_rfl
def m330 : MFn := ⟨73, [.t 4], .seq (xr [xo 2 (.box (.t 0)), xo 4 (.mv (.c (.nil)))]) (.seq (xr [xo 8 (.mkSl [.bool false, .int .i64 0] 0 []), xv 9 1, xo 10 (.app 2 16 (.t 8) (.t 9)), xv 5 10]) (.seq (.seq (xr [xo 11 (.load 5 true (.t 2)), xo 12 (.call 217 [false] [.t 11]), xo 13 (.len (.t 12)), xo 14 (.mv (xi 0))]) (.blk 0 (.loop (.seq (xr [xo 15 (.bin .lss (.t 14) (.t 13))]) (.seq (.cond 15 (.skip) (.exit 0)) (.seq (.blk 1 (.seq (xr [xo 16 (.iad 1 (.t 12) (.t 14)), xo 17 (.load 1 false (.t 16)), xv 7 17]) (xr [xv 18 5, xv 19 7, xo 20 (.build [.bool false, .int .i64 0] []), xo 21 (.iad 2 (.t 18) (.t 19)), ⟨none, .store 2 (.t 21) (.t 20), none⟩]))) (xr [xo 22 (.bin .add (.t 14) (xi 1)), xv 14 22]))))))) (.seq (.seq (xr [xo 23 (.fad 0 (.t 2)), xo 24 (.load 1 false (.t 23))]) (.blk 2 (.seq (xr [xo 26 (.bin .eql (.t 24) (xi 1)), xv 25 26]) (.cond 25 (xr [xv 27 5, xo 28 (.fad 1 (.t 2)), xo 29 (.load 1 false (.t 28)), xo 30 (.fad 4 (.t 2)), xo 31 (.load 1 false (.t 30)), xo 32 (.build [.bool false, .int .i64 0] [(0, 1, .c (.bool true)), (1, 1, .t 31)]), xo 33 (.iad 2 (.t 27) (.t 29)), ⟨none, .store 2 (.t 33) (.t 32), none⟩]) (.seq (.seq (xr [xo 35 (.bin .eql (.t 24) (xi 2)), xv 34 35]) (.cond 34 (.skip) (.seq (xr [xo 36 (.bin .eql (.t 24) (xi 3)), xv 34 36]) (.cond 34 (.skip) (xr [xo 37 (.bin .eql (.t 24) (xi 4)), xv 34 37]))))) (.cond 34 (.seq (xr [xv 38 1, xo 39 (.fad 2 (.t 2)), xo 40 (.load 1 false (.t 39)), xo 41 (.iad 2 (.t 38) (.t 40)), xo 42 (.fad 0 (.t 41)), xo 43 (.load 1 false (.t 42)), xv 44 43, xg 45 (.mv (.t 1)) 44 true, xg 46 (.fad 3 (.t 2)) 44 true, xg 47 (.load 1 false (.t 46)) 44 true, xg 48 (.iad 2 (.t 45) (.t 47)) 44 true, xg 49 (.fad 0 (.t 48)) 44 true, xg 50 (.load 1 false (.t 49)) 44 true, xo 51 (.pick (.t 44) (.t 50) (.c (.bool false)))]) (.cond 51 (.dreg (.take 0 (xv 52 5) (.take 1 (xo 53 (.fad 1 (.t 2))) (.take 2 (xo 54 (.load 1 false (.t 53))) (.take 3 (xo 55 (.fad 0 (.t 2))) (.take 4 (xo 56 (.load 1 false (.t 55))) (.take 5 (xv 57 1) (.take 6 (xo 58 (.fad 2 (.t 2))) (.take 7 (xo 59 (.load 1 false (.t 58))) (.take 8 (xo 60 (.iad 2 (.t 57) (.t 59))) (.take 9 (xo 61 (.fad 1 (.t 60))) (.take 10 (xo 62 (.load 1 false (.t 61))) (.take 11 (xv 63 1) (.only 12 [] (xo 64 (.fad 3 (.t 2))) (.only 13 [] (xo 65 (.load 1 false (.t 64))) (.only 14 [11] (xo 66 (.iad 2 (.t 63) (.t 65))) (.only 15 [] (xo 67 (.fad 1 (.t 66))) (.only 16 [] (xo 68 (.load 1 false (.t 67))) (.only 17 [4, 10] (xo 69 (.call 60 [false, false, false] [.t 56, .t 62, .t 68])) (.only 18 [] (xo 70 (.build [.bool false, .int .i64 0] [(0, 1, .c (.bool true)), (1, 1, .t 69)])) (.only 19 [0, 1, 2, 3, 4, 5, 6, 7, 8, 9, 10, 11] (xo 71 (.iad 2 (.t 52) (.t 54))) (.only 20 [0, 1, 2, 3, 4, 5, 6, 7, 8, 9, 10, 11] ⟨none, .store 2 (.t 71) (.t 70), none⟩ (.done))))))))))))))))))))))) (.skip))) (.skip))))))) (.seq (xr [xv 72 5, xv 4 72]) (.ret)))))⟩
theorem c330 : chkC Try.prog num Try.f290.ntmps m330.body ((Try.f290.body).getD .skip) = true := by kernel_rfl
def m331 : MFn := ⟨31, [.t 4], .seq (xr [xo 4 (.mv (.c (.bool false)))]) (.seq (xr [xo 5 (.mv (.c (.bool false)))]) (.seq (.seq (xr [xv 8 0, xo 9 (.len (.t 8)), xo 10 (.mv (xi 0))]) (.blk 0 (.loop (.seq (xr [xo 11 (.bin .lss (.t 10) (.t 9))]) (.seq (.cond 11 (.skip) (.exit 0)) (.seq (.blk 1 (.seq (xr [xv 12 10, xo 13 (.iad 2 (.t 8) (.t 10)), xo 14 (.load 2 true (.t 13)), xo 7 (.alloc [.bool false, .int .i64 0]), xv 6 12, ⟨none, .store 2 (.t 7) (.t 14), none⟩]) (.seq (.dreg (.only 0 [] (xo 15 (.fad 0 (.t 7))) (.only 1 [] (xo 16 (.load 1 false (.t 15))) (.only 2 [] (xv 17 16) (.take 3 (xg 18 (.load 2 true (.t 7)) 17 true) (.take 4 (xg 19 (.mv (.t 1)) 17 true) (.only 5 [] (xg 20 (.mv (.t 6)) 17 true) (.only 6 [4] (xg 21 (.iad 2 (.t 19) (.t 20)) 17 true) (.only 7 [] (xg 22 (.load 2 true (.t 21)) 17 true) (.only 8 [3] (xg 23 (.eqS true [false, true] (.t 18) (.t 22)) 17 true) (.only 9 [] (xo 24 (.pick (.t 17) (.t 23) (.c (.bool false)))) (.done)))))))))))) (.cond 24 (.seq (xr [xv 25 0, xv 26 6, xo 27 (.build [.bool false, .int .i64 0] []), xo 28 (.iad 2 (.t 25) (.t 26)), ⟨none, .store 2 (.t 28) (.t 27), none⟩]) (xr [xo 5 (.mv (.c (.bool true)))])) (.skip))))) (xr [xo 29 (.bin .add (.t 10) (xi 1)), xv 10 29]))))))) (.seq (xr [xv 30 5, xv 4 30]) (.ret))))⟩
theorem c331 : chkC Try.prog num Try.f291.ntmps m331.body ((Try.f291.body).getD .skip) = true := by kernel_rfl
def m344 : MFn := ⟨23, [.t 2], .seq (xr [xo 1 (.box (.t 0)), xo 2 (.mv (.c (.nil)))]) (.seq (.seq (xr [xo 3 (.fad 0 (.t 1)), xo 4 (.load 1 false (.t 3))]) (.blk 0 (.seq (.seq (xr [xo 6 (.bin .eql (.t 4) (xi 1)), xv 5 6]) (.cond 5 (.skip) (.seq (xr [xo 7 (.bin .eql (.t 4) (xi 2)), xv 5 7]) (.cond 5 (.skip) (.seq (xr [xo 8 (.bin .eql (.t 4) (xi 3)), xv 5 8]) (.cond 5 (.skip) (.seq (xr [xo 9 (.bin .eql (.t 4) (xi 4)), xv 5 9]) (.cond 5 (.skip) (xr [xo 10 (.bin .eql (.t 4) (xi 7)), xv 5 10]))))))))) (.cond 5 (.seq (xr [xo 11 (.fad 1 (.t 1)), xo 12 (.load 1 false (.t 11)), xo 13 (.mkSl [xz] 1 [(0, .t 12)]), xv 2 13]) (.ret)) (.seq (.seq (xr [xo 15 (.bin .eql (.t 4) (xi 6)), xv 14 15]) (.cond 14 (.skip) (xr [xo 16 (.bin .eql (.t 4) (xi 8)), xv 14 16]))) (.cond 14 (.seq (xr [xo 17 (.fad 1 (.t 1)), xo 18 (.load 1 false (.t 17)), xo 19 (.fad 3 (.t 1)), xo 20 (.load 1 false (.t 19)), xo 21 (.mkSl [xz] 2 [(0, .t 18), (1, .t 20)]), xv 2 21]) (.ret)) (.skip))))))) (.seq (xr [xo 22 (.mkSl [xz] 0 []), xv 2 22]) (.ret)))⟩
theorem c344 : chkC Try.prog num Try.f304.ntmps m344.body ((Try.f304.body).getD .skip) = true := by kernel_rfl
open Nat renaming reduceAdd → qA, reduceMul → qB, reduceEqDiff → qC, reduceBEq → qD
open Int renaming reduceToNat → qE, reduceEq → qF, reduceLT → qG, reduceLE → qH
open List renaming getD_eq_getElem?_getD → gD

-- S3
set_option maxHeartbeats 2000000 in
theorem implSets_ok (x : Ins) : CallOk Try.prog num 217 [.agg (insC x)] [] (.sl .own 1 (ints (sets x))) := by
  refine enter (m := m217) (f := 217) (fn := Try.f120) Try.func120 (by kernel_rfl) rfl c217 rfl (by simp [Try.f120]) (by simp [bnds, bnd, nf_sl, nf_int, nf_bool, nf_str, ints_bnd]) (fun _ _ h => by simp [preH, look] at h) ?_
  unfold m217
  by_cases h1 : x.op = 1
  · simp only [go_sem, qA, qB, qC, qD, qE, qF, qG, qH, h1]
    repeat refine K ?_
    refine ⟨_, Sub.refl _, FinS_one ?_⟩; simp [-List.drop_one]
    all_goals simp [sets, h1, ints]
  by_cases h2 : x.op = 2
  · simp only [go_sem, qA, qB, qC, qD, qE, qF, qG, qH, h1, h2]
    repeat refine K ?_
    refine ⟨_, Sub.refl _, FinS_one ?_⟩; simp [-List.drop_one]
    all_goals simp [sets, h2, ints]
  by_cases h3 : x.op = 3
  · simp only [go_sem, qA, qB, qC, qD, qE, qF, qG, qH, h1, h2, h3]
    repeat refine K ?_
    refine ⟨_, Sub.refl _, FinS_one ?_⟩; simp [-List.drop_one]
    all_goals simp [sets, h3, ints]
  by_cases h4 : x.op = 4
  · simp only [go_sem, qA, qB, qC, qD, qE, qF, qG, qH, h1, h2, h3, h4]
    repeat refine K ?_
    refine ⟨_, Sub.refl _, FinS_one ?_⟩; simp [-List.drop_one]
    all_goals simp [sets, h4, ints]
  by_cases h7 : x.op = 7
  · simp only [go_sem, qA, qB, qC, qD, qE, qF, qG, qH, h1, h2, h3, h4, h7]
    repeat refine K ?_
    refine ⟨_, Sub.refl _, FinS_one ?_⟩; simp [-List.drop_one]
    all_goals simp [sets, h7, ints]
  by_cases h6 : x.op = 6
  · simp only [go_sem, qA, qB, qC, qD, qE, qF, qG, qH, h1, h2, h3, h4, h7, h6]
    repeat refine K ?_
    refine ⟨_, Sub.refl _, FinS_one ?_⟩; simp [-List.drop_one]
    all_goals simp [sets, h6, ints]
  by_cases h8 : x.op = 8
  · simp only [go_sem, qA, qB, qC, qD, qE, qF, qG, qH, h1, h2, h3, h4, h7, h6, h8]
    repeat refine K ?_
    refine ⟨_, Sub.refl _, FinS_one ?_⟩; simp [-List.drop_one]
    all_goals simp [sets, h8, ints]
  simp only [go_sem, qA, qB, qC, qD, qE, qF, qG, qH, h1, h2, h3, h4, h7, h6, h8]
  repeat refine K ?_
  refine ⟨_, Sub.refl _, FinS_one ?_⟩; simp [-List.drop_one]
  all_goals simp [sets, h1, h2, h3, h4, h7, h6, h8, ints]
set_option maxHeartbeats 2000000 in
theorem specSets_ok (x : Ins) : CallOk Try.prog num 344 [.agg (insC x)] [] (.sl .own 1 (ints (sets x))) := by
  refine enter (m := m344) (f := 344) (fn := Try.f304) Try.func304 (by kernel_rfl) rfl c344 rfl (by simp [Try.f304]) (by simp [bnds, bnd, nf_sl, nf_int, nf_bool, nf_str, ints_bnd]) (fun _ _ h => by simp [preH, look] at h) ?_
  unfold m344
  by_cases h1 : x.op = 1
  · simp only [go_sem, qA, qB, qC, qD, qE, qF, qG, qH, h1]
    repeat refine K ?_
    refine ⟨_, Sub.refl _, FinS_one ?_⟩; simp [-List.drop_one]
    all_goals simp [sets, h1, ints]
  by_cases h2 : x.op = 2
  · simp only [go_sem, qA, qB, qC, qD, qE, qF, qG, qH, h1, h2]
    repeat refine K ?_
    refine ⟨_, Sub.refl _, FinS_one ?_⟩; simp [-List.drop_one]
    all_goals simp [sets, h2, ints]
  by_cases h3 : x.op = 3
  · simp only [go_sem, qA, qB, qC, qD, qE, qF, qG, qH, h1, h2, h3]
    repeat refine K ?_
    refine ⟨_, Sub.refl _, FinS_one ?_⟩; simp [-List.drop_one]
    all_goals simp [sets, h3, ints]
  by_cases h4 : x.op = 4
  · simp only [go_sem, qA, qB, qC, qD, qE, qF, qG, qH, h1, h2, h3, h4]
    repeat refine K ?_
    refine ⟨_, Sub.refl _, FinS_one ?_⟩; simp [-List.drop_one]
    all_goals simp [sets, h4, ints]
  by_cases h7 : x.op = 7
  · simp only [go_sem, qA, qB, qC, qD, qE, qF, qG, qH, h1, h2, h3, h4, h7]
    repeat refine K ?_
    refine ⟨_, Sub.refl _, FinS_one ?_⟩; simp [-List.drop_one]
    all_goals simp [sets, h7, ints]
  by_cases h6 : x.op = 6
  · simp only [go_sem, qA, qB, qC, qD, qE, qF, qG, qH, h1, h2, h3, h4, h7, h6]
    repeat refine K ?_
    refine ⟨_, Sub.refl _, FinS_one ?_⟩; simp [-List.drop_one]
    all_goals simp [sets, h6, ints]
  by_cases h8 : x.op = 8
  · simp only [go_sem, qA, qB, qC, qD, qE, qF, qG, qH, h1, h2, h3, h4, h7, h6, h8]
    repeat refine K ?_
    refine ⟨_, Sub.refl _, FinS_one ?_⟩; simp [-List.drop_one]
    all_goals simp [sets, h8, ints]
  simp only [go_sem, qA, qB, qC, qD, qE, qF, qG, qH, h1, h2, h3, h4, h7, h6, h8]
  repeat refine K ?_
  refine ⟨_, Sub.refl _, FinS_one ?_⟩; simp [-List.drop_one]
  all_goals simp [sets, h1, h2, h3, h4, h7, h6, h8, ints]
theorem l19Three_ok (op : Int) : CallOk Try.prog num 328 [.int .i64 op] [] (.bool (three op)) := by
  refine enter (m := m328) (f := 328) (fn := Try.f288) Try.func288 (by kernel_rfl) rfl c328 rfl (by simp [Try.f288]) (by simp [bnds, bnd, nf_sl, nf_int, nf_bool, nf_str, ints_bnd]) (fun _ _ h => by simp [preH, look] at h) ?_
  unfold m328
  by_cases h2 : op = 2
  · simp only [go_sem, qA, qB, qC, qD, qE, qF, qG, qH, h2]
    repeat refine K ?_
    refine ⟨_, Sub.refl _, ?_⟩; simp [FinS, nilL, nilV, oneOr, -List.drop_one]
    all_goals simp [three, h2]
  by_cases h3 : op = 3
  · simp only [go_sem, qA, qB, qC, qD, qE, qF, qG, qH, h2, h3]
    repeat refine K ?_
    refine ⟨_, Sub.refl _, ?_⟩; simp [FinS, nilL, nilV, oneOr, -List.drop_one]
    all_goals simp [three, h3]
  simp only [go_sem, qA, qB, qC, qD, qE, qF, qG, qH, h2, h3]
  repeat refine K ?_
  refine ⟨_, Sub.refl _, ?_⟩; simp [FinS, nilL, nilV, oneOr, -List.drop_one]
  all_goals simp [three, h2, h3]
theorem l19Of_ok (op a b : Int) : CallOk Try.prog num 329 [.int .i64 op, .int .i64 a, .int .i64 b] [] (.int .i64 (compute op a b)) := by
  refine enter (m := m329) (f := 329) (fn := Try.f289) Try.func289 (by kernel_rfl) rfl c329 rfl (by simp [Try.f289]) (by simp [bnds, bnd, nf_sl, nf_int, nf_bool, nf_str, ints_bnd]) (fun _ _ h => by simp [preH, look] at h) ?_
  unfold m329
  by_cases h2 : op = 2
  · simp only [go_sem, qA, qB, qC, qD, qE, qF, qG, qH, h2]
    repeat refine K ?_
    refine ⟨_, Sub.refl _, ?_⟩; simp [FinS, nilL, nilV, oneOr, -List.drop_one]
    all_goals simp [compute, h2]
  by_cases h3 : op = 3
  · simp only [go_sem, qA, qB, qC, qD, qE, qF, qG, qH, h2, h3]
    repeat refine K ?_
    refine ⟨_, Sub.refl _, ?_⟩; simp [FinS, nilL, nilV, oneOr, -List.drop_one]
    all_goals simp [compute, h3]
  simp only [go_sem, qA, qB, qC, qD, qE, qF, qG, qH, h2, h3]
  repeat refine K ?_
  refine CA [] (l4Bit_ok (decide (a < b))) ?_
  try simp only [go_sem, qA, qB, qC, qD, qE, qF, qG, qH]
  repeat refine K ?_
  refine ⟨_, Sub.refl _, ?_⟩; simp [FinS, nilL, nilV, oneOr, -List.drop_one]
  all_goals simp [compute, h2, h3]

-- S3
def setsF (s : List Int) (k : KV) : KV := s.foldl (fun o r => o.set r.toNat kno) k
theorem setsF_length : ∀ (s : List Int) (k : KV), (setsF s k).length = k.length
  | [], _ => rfl
  | r :: s, k => by
    have := setsF_length s (k.set r.toNat kno)
    rw [List.length_set] at this
    exact this
theorem setsF_take (s : List Int) (k : KV) (j : Nat) (h : j < s.length) : setsF (s.take (j + 1)) k = (setsF (s.take j) k).set (s.getD j 0).toNat ⟨false, 0⟩ := by
  unfold setsF
  rw [take_snoc s 0 j h, List.foldl_append]
  rfl
theorem sets_in {x : Ins} (hx : RegsOk x) : ∀ r ∈ sets x, 0 ≤ r ∧ r.toNat < 4 := by
  unfold sets
  split
  · intro r hr
    rw [List.mem_singleton.1 hr]
    exact hx.r
  · split
    · intro r hr
      simp only [List.mem_cons, List.not_mem_nil, or_false] at hr
      rcases hr with rfl | rfl
      · exact hx.r
      · exact hx.b
    · intro r hr
      simp at hr
theorem sets_len (x : Ins) : (sets x).length ≤ 2 := by
  unfold sets
  repeat' split
  all_goals simp
theorem behind_eq (x : Ins) (k : KV) : behind x k = if x.op = 1 then (setsF (sets x) k).set x.r.toNat ⟨true, x.n⟩
  else if three x.op && (k.getD x.a.toNat default).is_ && (k.getD x.b.toNat default).is_ then (setsF (sets x) k).set x.r.toNat ⟨true, compute x.op (k.getD x.a.toNat default).v (k.getD x.b.toNat default).v⟩
  else setsF (sets x) k := rfl
theorem three_iff (op : Int) : three op = true ↔ op = 2 ∨ op = 3 ∨ op = 4 := by
  unfold three
  simp
  omega
set_option maxHeartbeats 8000000 in
theorem implBehind_ok (x : Ins) (k : KV) (hx : RegsOk x) (hk : k.length = 4) : CallOk Try.prog num 330 [.agg (insC x), .sl .bw 2 (knowns k)] [] (.sl .own 2 (knowns (behind x k))) := by
  have hl := sets_len x
  have hin := sets_in hx
  obtain ⟨⟨r0, r1⟩, ⟨a0, a1⟩, ⟨b0, b1⟩⟩ := hx
  refine enter (m := m330) (f := 330) (fn := Try.f290) Try.func290 (by kernel_rfl) rfl c330 rfl (by simp [Try.f290]) (by simp [bnds, bnd, nf_sl, nf_int, nf_bool, nf_str, ints_bnd]) (fun _ _ h => by simp [preH, look] at h) ?_
  unfold m330
  simp only [go_sem, qA, qB, qC, qD, qE, qF, qG, qH]
  repeat refine K ?_
  refine CA [] (implSets_ok x) ?_
  try simp only [go_sem, qA, qB, qC, qD, qE, qF, qG, qH]
  repeat refine K ?_
  try simp only [go_sem, qA, qB, qC, qD, qE, qF, qG, qH]
  repeat refine K ?_
  refine loop_intro (ι := Nat) (fun j => .mk [(1, .sl .bw 2 (knowns k)), (2, .ptr 10 0 0), (5, .ns 12 0 k.length), (12, .ns 13 0 (sets x).length), (13, .int .i64 (sets x).length), (14, .int .i64 j)] [(10, 5, [insC x]), (12, 2, knowns (setsF ((sets x).take j) k)), (13, 1, ints (sets x))] 14) (fun j => j ≤ (sets x).length) (fun j => (sets x).length - j) 0 (by simp) ?_ ?_
  · refine Sub.shape [] id (by omega) ?_ ?_ ?_ ?_ <;> simp [ints_rep]
    all_goals simp [setsF, knowns]
  · intro j hj
    have hsl := setsF_length ((sets x).take j) k
    simp only [go_sem, qA, qB, qC, qD, qE, qF, qG, qH]
    refine branch_intro (fun hc => ?_) (fun hc => ?_)
    · simp only [decide_eq_true_eq] at hc
      have hj' : j < (sets x).length := by omega
      obtain ⟨q0, q1⟩ := hin _ (getD_mem (sets x) j 0 hj')
      have hst := setsF_take (sets x) k j hj'
      have hg := knowns_getD (setsF ((sets x).take j) k) ((sets x).getD j 0).toNat (by omega)
      simp only [go_sem, qA, qB, qC, qD, qE, qF, qG, qH, ints_getD (sets x) j hj', hsl, hg, knowns_set, wrap_succ (i := j) (by omega)]
      repeat refine K ?_
      refine back_intro (j + 1) (Sub.shape [] id (by omega) ?_ ?_ ?_ ?_) hj' (by omega) <;> simp [ints_rep]
      all_goals (rw [hst])
      all_goals (try simp [knowns])
    · simp only [decide_eq_false_iff_not] at hc
      have he : (sets x).take j = sets x := List.take_of_length_le (by omega)
      rw [he] at hsl ⊢
      rw [behind_eq]
      generalize hss : setsF (sets x) k = o at hsl
      have gr := knowns_getD o x.r.toNat (by omega)
      have ga := knowns_getD k x.a.toNat (by omega)
      have gb := knowns_getD k x.b.toNat (by omega)
      by_cases h1 : x.op = 1
      · simp only [go_sem, qA, qB, qC, qD, qE, qF, qG, qH, h1, hsl, gr, knowns_set]
        repeat refine K ?_
        refine ⟨_, Sub.refl _, FinS_one ?_⟩; simp [-List.drop_one]
        all_goals (try simp [h1, knowns_set, hsl])
      rw [if_neg h1]
      cases h3 : three x.op
      · have n2 : ¬ x.op = 2 := fun e => by rw [(three_iff x.op).2 (by omega)] at h3; simp at h3
        have n3 : ¬ x.op = 3 := fun e => by rw [(three_iff x.op).2 (by omega)] at h3; simp at h3
        have n4 : ¬ x.op = 4 := fun e => by rw [(three_iff x.op).2 (by omega)] at h3; simp at h3
        simp only [go_sem, qA, qB, qC, qD, qE, qF, qG, qH, h1, n2, n3, n4, hsl]
        repeat refine K ?_
        refine ⟨_, Sub.refl _, FinS_one ?_⟩; simp [-List.drop_one]
        all_goals (try simp [hsl])
      have h3' := (three_iff x.op).1 h3
      have e : (if (true && (k.getD x.a.toNat default).is_ && (k.getD x.b.toNat default).is_) = true then o.set x.r.toNat ⟨true, compute x.op (k.getD x.a.toNat default).v (k.getD x.b.toNat default).v⟩ else o) = (if (k.getD x.a.toNat default).is_ then if (k.getD x.b.toNat default).is_ then o.set x.r.toNat ⟨true, compute x.op (k.getD x.a.toNat default).v (k.getD x.b.toNat default).v⟩ else o else o) := by
        cases (k.getD x.a.toNat default).is_ <;> cases (k.getD x.b.toNat default).is_ <;> rfl
      rw [e]
      clear e
      generalize k.getD x.a.toNat default = ka at ga
      generalize k.getD x.b.toNat default = kb at gb
      have hcp := compute_ok x.op ka.v kb.v
      generalize compute x.op ka.v kb.v = cv at hcp
      rcases h3' with h2 | h2 | h2
      all_goals
        rw [h2] at hcp
        cases ia : ka.is_
        · try simp only [go_sem, qA, qB, qC, qD, qE, qF, qG, qH, h1, h2, ga, hsl, ia]
          repeat refine K ?_
          refine ⟨_, Sub.refl _, FinS_one ?_⟩; simp [-List.drop_one]
          all_goals (try simp [hsl])
        try simp only [go_sem, qA, qB, qC, qD, qE, qF, qG, qH, h1, h2, ga, hsl, ia]
        repeat refine K ?_
        cases ib : kb.is_
        · try simp only [go_sem, qA, qB, qC, qD, qE, qF, qG, qH, gb, hsl, ib]
          repeat refine K ?_
          refine ⟨_, Sub.refl _, FinS_one ?_⟩; simp [-List.drop_one]
          all_goals (try simp [hsl])
        try simp only [go_sem, qA, qB, qC, qD, qE, qF, qG, qH, ga, gb, hsl, ib]
        repeat refine K ?_
        refine DA [] (hcp) ?_
        try simp only [go_sem, qA, qB, qC, qD, qE, qF, qG, qH]
        repeat refine K ?_
        try simp only [go_sem, qA, qB, qC, qD, qE, qF, qG, qH, hsl, gr, knowns_set]
        repeat refine K ?_
        refine ⟨_, Sub.refl _, FinS_one ?_⟩; simp [-List.drop_one]
        all_goals (try simp [knowns_set, hsl])
set_option maxHeartbeats 8000000 in
theorem specBehind_ok (x : Ins) (k : KV) (hx : RegsOk x) (hk : k.length = 4) : CallOk Try.prog num 325 [.agg (insC x), .sl .bw 2 (knowns k)] [] (.sl .own 2 (knowns (behind x k))) := by
  have hl := sets_len x
  have hin := sets_in hx
  obtain ⟨⟨r0, r1⟩, ⟨a0, a1⟩, ⟨b0, b1⟩⟩ := hx
  refine enter (m := m325) (f := 325) (fn := Try.f285) Try.func285 (by kernel_rfl) rfl c325 rfl (by simp [Try.f285]) (by simp [bnds, bnd, nf_sl, nf_int, nf_bool, nf_str, ints_bnd]) (fun _ _ h => by simp [preH, look] at h) ?_
  unfold m325
  simp only [go_sem, qA, qB, qC, qD, qE, qF, qG, qH]
  repeat refine K ?_
  refine CA [] (specSets_ok x) ?_
  try simp only [go_sem, qA, qB, qC, qD, qE, qF, qG, qH]
  repeat refine K ?_
  try simp only [go_sem, qA, qB, qC, qD, qE, qF, qG, qH]
  repeat refine K ?_
  refine loop_intro (ι := Nat) (fun j => .mk [(1, .sl .bw 2 (knowns k)), (2, .ptr 10 0 0), (5, .ns 12 0 k.length), (6, .ns 13 0 (sets x).length), (7, .int .i64 j)] [(10, 5, [insC x]), (12, 2, knowns (setsF ((sets x).take j) k)), (13, 1, ints (sets x))] 14) (fun j => j ≤ (sets x).length) (fun j => (sets x).length - j) 0 (by simp) ?_ ?_
  · refine Sub.shape [] id (by omega) ?_ ?_ ?_ ?_ <;> simp [ints_rep]
    all_goals simp [setsF, knowns]
  · intro j hj
    have hsl := setsF_length ((sets x).take j) k
    simp only [go_sem, qA, qB, qC, qD, qE, qF, qG, qH]
    refine branch_intro (fun hc => ?_) (fun hc => ?_)
    · simp only [decide_eq_true_eq] at hc
      have hj' : j < (sets x).length := by omega
      obtain ⟨q0, q1⟩ := hin _ (getD_mem (sets x) j 0 hj')
      have hst := setsF_take (sets x) k j hj'
      have hg := knowns_getD (setsF ((sets x).take j) k) ((sets x).getD j 0).toNat (by omega)
      simp only [go_sem, qA, qB, qC, qD, qE, qF, qG, qH, ints_getD (sets x) j hj', hsl, hg, knowns_set, wrap_succ (i := j) (by omega)]
      repeat refine K ?_
      refine back_intro (j + 1) (Sub.shape [] id (by omega) ?_ ?_ ?_ ?_) hj' (by omega) <;> simp [ints_rep]
      all_goals (rw [hst])
      all_goals (try simp [knowns])
    · simp only [decide_eq_false_iff_not] at hc
      have he : (sets x).take j = sets x := List.take_of_length_le (by omega)
      rw [he] at hsl ⊢
      rw [behind_eq]
      generalize hss : setsF (sets x) k = o at hsl
      have gr := knowns_getD o x.r.toNat (by omega)
      have ga := knowns_getD k x.a.toNat (by omega)
      have gb := knowns_getD k x.b.toNat (by omega)
      by_cases h1 : x.op = 1
      · have h3 : three 1 = false := by decide
        simp only [go_sem, qA, qB, qC, qD, qE, qF, qG, qH, h1, hsl, gr, knowns_set]
        repeat refine K ?_
        refine CA [] (l19Three_ok 1) ?_
        try simp only [go_sem, qA, qB, qC, qD, qE, qF, qG, qH]
        repeat refine K ?_
        try simp only [go_sem, qA, qB, qC, qD, qE, qF, qG, qH, h3, hsl]
        repeat refine K ?_
        refine ⟨_, Sub.refl _, FinS_one ?_⟩; simp [-List.drop_one]
        all_goals (try simp [h1, knowns_set, hsl])
      rw [if_neg h1]
      simp only [go_sem, qA, qB, qC, qD, qE, qF, qG, qH, h1]
      repeat refine K ?_
      refine CA [] (l19Three_ok x.op) ?_
      try simp only [go_sem, qA, qB, qC, qD, qE, qF, qG, qH]
      repeat refine K ?_
      cases h3 : three x.op
      · try simp only [go_sem, qA, qB, qC, qD, qE, qF, qG, qH, h3, hsl]
        repeat refine K ?_
        refine ⟨_, Sub.refl _, FinS_one ?_⟩; simp [-List.drop_one]
        all_goals (try simp [hsl])
      have e : (if (true && (k.getD x.a.toNat default).is_ && (k.getD x.b.toNat default).is_) = true then o.set x.r.toNat ⟨true, compute x.op (k.getD x.a.toNat default).v (k.getD x.b.toNat default).v⟩ else o) = (if (k.getD x.a.toNat default).is_ then if (k.getD x.b.toNat default).is_ then o.set x.r.toNat ⟨true, compute x.op (k.getD x.a.toNat default).v (k.getD x.b.toNat default).v⟩ else o else o) := by
        cases (k.getD x.a.toNat default).is_ <;> cases (k.getD x.b.toNat default).is_ <;> rfl
      rw [e]
      clear e
      generalize k.getD x.a.toNat default = ka at ga
      generalize k.getD x.b.toNat default = kb at gb
      have hcp := l19Of_ok x.op ka.v kb.v
      generalize compute x.op ka.v kb.v = cv at hcp
      cases ia : ka.is_
      · try simp only [go_sem, qA, qB, qC, qD, qE, qF, qG, qH, h3, ga, hsl, ia]
        repeat refine K ?_
        refine ⟨_, Sub.refl _, FinS_one ?_⟩; simp [-List.drop_one]
        all_goals (try simp [hsl])
      try simp only [go_sem, qA, qB, qC, qD, qE, qF, qG, qH, h3, ga, hsl, ia]
      repeat refine K ?_
      cases ib : kb.is_
      · try simp only [go_sem, qA, qB, qC, qD, qE, qF, qG, qH, gb, hsl, ib]
        repeat refine K ?_
        refine ⟨_, Sub.refl _, FinS_one ?_⟩; simp [-List.drop_one]
        all_goals (try simp [hsl])
      try simp only [go_sem, qA, qB, qC, qD, qE, qF, qG, qH, ga, gb, hsl, ib]
      repeat refine K ?_
      refine DA [] (hcp) ?_
      try simp only [go_sem, qA, qB, qC, qD, qE, qF, qG, qH]
      repeat refine K ?_
      try simp only [go_sem, qA, qB, qC, qD, qE, qF, qG, qH, hsl, gr, knowns_set]
      repeat refine K ?_
      refine ⟨_, Sub.refl _, FinS_one ?_⟩; simp [-List.drop_one]
      all_goals (try simp [knowns_set, hsl])

-- S3
theorem meetK_take : ∀ (k o : KV) (i : Nat), i < k.length → i < o.length → meetK (k.take (i + 1)) o ++ k.drop (i + 1) = (meetK (k.take i) o ++ k.drop i).set i (meet1 (k.getD i default) (o.getD i default))
  | [], _, i, h, _ => by simp at h
  | _ :: _, [], i, _, h => by simp at h
  | a :: l, b :: k, 0, _, _ => by simp [meetK]
  | a :: l, b :: k, i + 1, h, g => by
    have ih := meetK_take l k i (by simpa using h) (by simpa using g)
    simp only [List.take_succ_cons, meetK, List.drop_succ_cons, List.cons_append, List.set_cons_succ, List.getD_cons_succ] at ih ⊢
    rw [ih]
theorem lessK_take : ∀ (k o : KV) (i : Nat), i < k.length → i < o.length → lessK (k.take (i + 1)) o = (lessK (k.take i) o || less1 (k.getD i default) (o.getD i default))
  | [], _, i, h, _ => by simp at h
  | _ :: _, [], i, _, h => by simp at h
  | a :: l, b :: k, 0, _, _ => by simp [lessK]
  | a :: l, b :: k, i + 1, h, g => by
    have ih := lessK_take l k i (by simpa using h) (by simpa using g)
    simp only [List.take_succ_cons, lessK, List.getD_cons_succ] at ih ⊢
    rw [ih, Bool.or_assoc]
theorem mrow_getD (k o : KV) (i : Nat) (h : i < k.length) : (meetK (k.take i) o ++ k.drop i).getD i default = k.getD i default := by
  have hl : (meetK (k.take i) o).length = i := by rw [meetK_length, List.length_take]; omega
  rw [List.getD_eq_getElem?_getD, List.getElem?_append_right (by omega), hl]
  simp [List.getD_eq_getElem?_getD]
theorem mrow_length (k o : KV) (i : Nat) (h : i ≤ k.length) : (meetK (k.take i) o ++ k.drop i).length = k.length := by
  rw [List.length_append, meetK_length, List.length_take, List.length_drop]
  omega
theorem set_same (l : KV) (i : Nat) (h : i < l.length) : l.set i (l.getD i default) = l := by
  rw [List.getD_eq_getElem?_getD, List.getElem?_eq_getElem h, Option.getD_some, List.set_getElem_self]
set_option maxHeartbeats 4000000 in
theorem implMeet_ok (k o : KV) (hk : k.length < 2 ^ 40) (ho : o.length = k.length) : CallOk Try.prog num 331 [.ns 0 0 k.length, .sl .bw 2 (knowns o)] [(0, some (2, knowns k), some (2, knowns (meetK k o)))] (.bool (lessK k o)) := by
  refine enter (m := m331) (f := 331) (fn := Try.f291) Try.func291 (by kernel_rfl) rfl c331 rfl (by simp [Try.f291]) (by simp [bnds, bnd, nf_sl, nf_int, nf_bool, nf_str, ints_bnd]) (by refine hb_cons _ _ _ _ ((hb_nil _).2 trivial) (by decide) ?_ <;> simp [knowns_bnd]) ?_
  unfold m331
  simp only [go_sem, qA, qB, qC, qD, qE, qF, qG, qH]
  repeat refine K ?_
  refine loop_intro (ι := Nat) (fun i => .mk [(0, .ns 0 0 k.length), (1, .sl .bw 2 (knowns o)), (5, .bool (lessK (k.take i) o)), (8, .ns 0 0 k.length), (9, .int .i64 k.length), (10, .int .i64 i)] [(0, 2, knowns (meetK (k.take i) o ++ k.drop i))] 10) (fun i => i ≤ k.length) (fun i => k.length - i) 0 (by simp) ?_ ?_
  · refine Sub.shape [] id (by omega) ?_ ?_ ?_ ?_ <;> simp [ints_rep]
    all_goals simp [meetK, lessK]
  · intro i hi
    have hml := mrow_length k o i hi
    have e1 := meetK_take k o i
    have e2 := lessK_take k o i
    have hg0 := mrow_getD k o i
    generalize hR : meetK (k.take i) o ++ k.drop i = R at hml e1 hg0
    simp only [go_sem, qA, qB, qC, qD, qE, qF, qG, qH, hml]
    refine branch_intro (fun hc => ?_) (fun hc => ?_)
    · simp only [decide_eq_true_eq] at hc
      have hl' : i < k.length := by omega
      have hj : i < o.length := by omega
      have hg := knowns_getD R i (by omega)
      rw [hg0 hl'] at hg
      have hgo := knowns_getD o i hj
      have e1' := e1 hl' hj
      have e2' := e2 hl' hj
      have hsame := set_same R i (by omega)
      rw [hg0 hl'] at hsame
      generalize k.getD i default = a at hg e1' e2' hsame
      generalize o.getD i default = b at hgo e1' e2'
      obtain ⟨ai, av⟩ := a
      obtain ⟨bi, bv⟩ := b
      have hws := wrap_succ (i := i) (by omega)
      cases ai
      · have em : meet1 ⟨false, av⟩ ⟨bi, bv⟩ = ⟨false, av⟩ := rfl
        have el : less1 ⟨false, av⟩ ⟨bi, bv⟩ = false := rfl
        rw [em, hsame] at e1'
        rw [el, Bool.or_false] at e2'
        simp only [go_sem, qA, qB, qC, qD, qE, qF, qG, qH, hg, hml, hws]
        repeat refine K ?_
        refine back_intro (i + 1) ?_ hl' (by omega)
        rw [e1', e2']
        refine Sub.shape [] id (by omega) ?_ ?_ ?_ ?_ <;> simp [ints_rep]
      by_cases hab : bi = true ∧ av = bv
      · obtain ⟨rfl, rfl⟩ := hab
        have em : meet1 ⟨true, av⟩ ⟨true, av⟩ = ⟨true, av⟩ := by simp [meet1]
        have el : less1 ⟨true, av⟩ ⟨true, av⟩ = false := by simp [less1]
        rw [em, hsame] at e1'
        rw [el, Bool.or_false] at e2'
        simp only [go_sem, qA, qB, qC, qD, qE, qF, qG, qH, hg, hgo, hml, hws]
        repeat refine K ?_
        refine back_intro (i + 1) ?_ hl' (by omega)
        rw [e1', e2']
        refine Sub.shape [] id (by omega) ?_ ?_ ?_ ?_ <;> simp [ints_rep]
      · have hor : bi = false ∨ ¬ av = bv := by
          cases bi
          · exact .inl rfl
          · exact .inr fun h => hab ⟨rfl, h⟩
        have em : meet1 ⟨true, av⟩ ⟨bi, bv⟩ = ⟨false, 0⟩ := by
          unfold meet1
          rw [if_pos]
          · rfl
          · simpa using hor
        have el : less1 ⟨true, av⟩ ⟨bi, bv⟩ = true := by
          unfold less1
          simpa using hor
        have hbd : (true == bi && decide (av = bv)) = false := by
          rcases hor with h | h <;> simp [h]
        rw [em] at e1'
        rw [el, Bool.or_true] at e2'
        simp only [go_sem, qA, qB, qC, qD, qE, qF, qG, qH, hg, hgo, hml, hws, hbd, knowns_set]
        repeat refine K ?_
        refine back_intro (i + 1) ?_ hl' (by omega)
        rw [e1', e2']
        refine Sub.shape [] id (by omega) ?_ ?_ ?_ ?_ <;> simp [ints_rep]
    · simp only [decide_eq_false_iff_not] at hc
      have he : k.take i = k := List.take_of_length_le (by omega)
      have hd : k.drop i = [] := List.drop_eq_nil_of_le (by omega)
      rw [he, hd, List.append_nil] at hR
      simp only [go_sem, qA, qB, qC, qD, qE, qF, qG, qH, he]
      repeat refine K ?_
      refine ⟨_, Sub.refl _, ?_⟩; simp [FinS, nilL, nilV, oneOr, -List.drop_one]
      all_goals (try rw [hR])
set_option maxHeartbeats 4000000 in
theorem specMeet_ok (k o : KV) (hk : k.length < 2 ^ 40) (ho : o.length = k.length) : CallOk Try.prog num 327 [.sl .bw 2 (knowns k), .sl .bw 2 (knowns o)] [] (.tup [.sl .own 2 (knowns (meetK k o)), .bool (lessK k o)]) := by
  refine enter (m := m327) (f := 327) (fn := Try.f287) Try.func287 (by kernel_rfl) rfl c327 rfl (by simp [Try.f287]) (by simp [bnds, bnd, nf_sl, nf_int, nf_bool, nf_str, ints_bnd]) (fun _ _ h => by simp [preH, look] at h) ?_
  unfold m327
  simp only [go_sem, qA, qB, qC, qD, qE, qF, qG, qH]
  repeat refine K ?_
  refine loop_intro (ι := Nat) (fun i => .mk [(0, .sl .bw 2 (knowns k)), (1, .sl .bw 2 (knowns o)), (6, .ns 11 0 k.length), (7, .bool (lessK (k.take i) o)), (8, .int .i64 i)] [(11, 2, knowns (meetK (k.take i) o ++ k.drop i))] 12) (fun i => i ≤ k.length) (fun i => k.length - i) 0 (by simp) ?_ ?_
  · refine Sub.shape [] id (by omega) ?_ ?_ ?_ ?_ <;> simp [ints_rep]
    all_goals simp [meetK, lessK, knowns]
  · intro i hi
    have hml := mrow_length k o i hi
    have e1 := meetK_take k o i
    have e2 := lessK_take k o i
    have hg0 := mrow_getD k o i
    generalize hR : meetK (k.take i) o ++ k.drop i = R at hml e1 hg0
    simp only [go_sem, qA, qB, qC, qD, qE, qF, qG, qH, hml]
    refine branch_intro (fun hc => ?_) (fun hc => ?_)
    · simp only [decide_eq_true_eq] at hc
      have hl' : i < k.length := by omega
      have hj : i < o.length := by omega
      have hg := knowns_getD R i (by omega)
      rw [hg0 hl'] at hg
      have hgk := knowns_getD k i hl'
      have hgo := knowns_getD o i hj
      have e1' := e1 hl' hj
      have e2' := e2 hl' hj
      have hsame := set_same R i (by omega)
      rw [hg0 hl'] at hsame
      generalize k.getD i default = a at hg e1' e2' hsame hgk
      generalize o.getD i default = b at hgo e1' e2'
      obtain ⟨ai, av⟩ := a
      obtain ⟨bi, bv⟩ := b
      have hws := wrap_succ (i := i) (by omega)
      cases ai
      · have em : meet1 ⟨false, av⟩ ⟨bi, bv⟩ = ⟨false, av⟩ := rfl
        have el : less1 ⟨false, av⟩ ⟨bi, bv⟩ = false := rfl
        rw [em, hsame] at e1'
        rw [el, Bool.or_false] at e2'
        simp only [go_sem, qA, qB, qC, qD, qE, qF, qG, qH, hg, hgk, hml, hws]
        repeat refine K ?_
        refine back_intro (i + 1) ?_ hl' (by omega)
        rw [e1', e2']
        refine Sub.shape [] id (by omega) ?_ ?_ ?_ ?_ <;> simp [ints_rep]
      by_cases hab : bi = true ∧ av = bv
      · obtain ⟨rfl, rfl⟩ := hab
        have em : meet1 ⟨true, av⟩ ⟨true, av⟩ = ⟨true, av⟩ := by simp [meet1]
        have el : less1 ⟨true, av⟩ ⟨true, av⟩ = false := by simp [less1]
        rw [em, hsame] at e1'
        rw [el, Bool.or_false] at e2'
        simp only [go_sem, qA, qB, qC, qD, qE, qF, qG, qH, hg, hgk, hgo, hml, hws]
        repeat refine K ?_
        refine back_intro (i + 1) ?_ hl' (by omega)
        rw [e1', e2']
        refine Sub.shape [] id (by omega) ?_ ?_ ?_ ?_ <;> simp [ints_rep]
      · have hor : bi = false ∨ ¬ av = bv := by
          cases bi
          · exact .inl rfl
          · exact .inr fun h => hab ⟨rfl, h⟩
        have em : meet1 ⟨true, av⟩ ⟨bi, bv⟩ = ⟨false, 0⟩ := by
          unfold meet1
          rw [if_pos]
          · rfl
          · simpa using hor
        have el : less1 ⟨true, av⟩ ⟨bi, bv⟩ = true := by
          unfold less1
          simpa using hor
        have hbd : (true == bi && decide (av = bv)) = false := by
          rcases hor with h | h <;> simp [h]
        rw [em] at e1'
        rw [el, Bool.or_true] at e2'
        simp only [go_sem, qA, qB, qC, qD, qE, qF, qG, qH, hg, hgk, hgo, hml, hws, hbd, knowns_set]
        repeat refine K ?_
        refine back_intro (i + 1) ?_ hl' (by omega)
        rw [e1', e2']
        refine Sub.shape [] id (by omega) ?_ ?_ ?_ ?_ <;> simp [ints_rep]
    · simp only [decide_eq_false_iff_not] at hc
      have he : k.take i = k := List.take_of_length_le (by omega)
      have hd : k.drop i = [] := List.drop_eq_nil_of_le (by omega)
      rw [he, hd, List.append_nil] at hR
      simp only [go_sem, qA, qB, qC, qD, qE, qF, qG, qH, he]
      repeat refine K ?_
      refine ⟨_, Sub.refl _, FinS_tup (by simp) ?_⟩; simp [-List.drop_one]
      rw [hR]
      simp [hml]
/-- A place, folded by what is known ahead of it. -/
def foldOne (x : Ins) (k : KV) (next : Int) : Ins :=
  if k.length = 4 ∧ within x.a 0 3 = true ∧ within x.b 0 3 = true then
    if three x.op && (k.getD x.a.toNat default).is_ && (k.getD x.b.toNat default).is_ && within (compute x.op (k.getD x.a.toNat default).v (k.getD x.b.toNat default).v) (-1000000000) 1000000000 then ⟨1, x.r, 0, 0, compute x.op (k.getD x.a.toNat default).v (k.getD x.b.toNat default).v⟩
    else if x.op = 12 ∧ (k.getD x.a.toNat default).is_ = true then if (k.getD x.a.toNat default).v = 0 then ⟨11, 0, 0, 0, x.n⟩ else ⟨11, 0, 0, 0, next⟩
    else x
  else x
theorem foldOne_in {x : Ins} {k : KV} (h4 : k.length = 4) (ha : within x.a 0 3 = true) (hb : within x.b 0 3 = true) (next : Int) : foldOne x k next =
    if three x.op && (k.getD x.a.toNat default).is_ && (k.getD x.b.toNat default).is_ && within (compute x.op (k.getD x.a.toNat default).v (k.getD x.b.toNat default).v) (-1000000000) 1000000000 then ⟨1, x.r, 0, 0, compute x.op (k.getD x.a.toNat default).v (k.getD x.b.toNat default).v⟩
    else if x.op = 12 ∧ (k.getD x.a.toNat default).is_ = true then if (k.getD x.a.toNat default).v = 0 then ⟨11, 0, 0, 0, x.n⟩ else ⟨11, 0, 0, 0, next⟩
    else x := by
  unfold foldOne
  rw [if_pos ⟨h4, ha, hb⟩]
theorem foldOne_out {x : Ins} {k : KV} (h : ¬ (k.length = 4 ∧ within x.a 0 3 = true ∧ within x.b 0 3 = true)) (next : Int) : foldOne x k next = x := by
  unfold foldOne
  rw [if_neg h]
set_option maxHeartbeats 8000000 in
theorem implFoldOne_ok (x : Ins) (k : KV) (next : Int) (hk : k.length < 2 ^ 40) : CallOk Try.prog num 292 [.agg (insC x), .sl .bw 2 (knowns k), .int .i64 next] [] (.agg (insC (foldOne x k next))) := by
  refine enter (m := m292) (f := 292) (fn := Try.f239) Try.func239 (by kernel_rfl) rfl c292 rfl (by simp [Try.f239]) (by simp [bnds, bnd, nf_sl, nf_int, nf_bool, nf_str, ints_bnd]) (fun _ _ h => by simp [preH, look] at h) ?_
  unfold m292
  simp only [go_sem, qA, qB, qC, qD, qE, qF, qG, qH]
  repeat refine K ?_
  by_cases h4 : (k.length : Int) = 4
  case neg =>
    have hf := foldOne_out (x := x) (k := k) (fun h => h4 (by omega)) next
    rw [hf]
    try simp only [go_sem, qA, qB, qC, qD, qE, qF, qG, qH, h4]
    repeat refine K ?_
    refine ⟨_, Sub.refl _, ?_⟩; simp [FinS, nilL, nilV, oneOr, -List.drop_one]
  have h4' : k.length = 4 := by omega
  try simp only [go_sem, qA, qB, qC, qD, qE, qF, qG, qH, h4]
  repeat refine K ?_
  refine CA [] (isReg_ok x.a) ?_
  try simp only [go_sem, qA, qB, qC, qD, qE, qF, qG, qH]
  repeat refine K ?_
  cases ha : within x.a 0 3
  · have hf := foldOne_out (x := x) (k := k) (fun h => by rw [ha] at h; simp at h) next
    rw [hf]
    try simp only [go_sem, qA, qB, qC, qD, qE, qF, qG, qH, ha]
    repeat refine K ?_
    refine ⟨_, Sub.refl _, ?_⟩; simp [FinS, nilL, nilV, oneOr, -List.drop_one]
  try simp only [go_sem, qA, qB, qC, qD, qE, qF, qG, qH, ha]
  repeat refine K ?_
  refine CA [] (isReg_ok x.b) ?_
  try simp only [go_sem, qA, qB, qC, qD, qE, qF, qG, qH]
  repeat refine K ?_
  cases hb : within x.b 0 3
  · have hf := foldOne_out (x := x) (k := k) (fun h => by rw [hb] at h; simp at h) next
    rw [hf]
    try simp only [go_sem, qA, qB, qC, qD, qE, qF, qG, qH, hb]
    repeat refine K ?_
    refine ⟨_, Sub.refl _, ?_⟩; simp [FinS, nilL, nilV, oneOr, -List.drop_one]
  have hf := foldOne_in h4' ha hb next
  have ha' := within_iff.1 ha
  have hb' := within_iff.1 hb
  have ga := knowns_getD k x.a.toNat (by omega)
  have gb := knowns_getD k x.b.toNat (by omega)
  generalize foldOne x k next = R at hf
  have hcp := compute_ok x.op (k.getD x.a.toNat default).v (k.getD x.b.toNat default).v
  generalize k.getD x.a.toNat default = ka at ga hcp hf
  generalize k.getD x.b.toNat default = kb at gb hcp hf
  generalize compute x.op ka.v kb.v = cv at hcp hf
  obtain ⟨ia, va⟩ := ka
  obtain ⟨ib, vb⟩ := kb
  simp only at ga gb hcp hf
  cases ia
  · have hR : R = x := by rw [hf]; simp
    rw [hR]
    try simp only [go_sem, qA, qB, qC, qD, qE, qF, qG, qH, hb, ga]
    repeat refine K ?_
    refine ⟨_, Sub.refl _, ?_⟩; simp [FinS, nilL, nilV, oneOr, -List.drop_one]
  try simp only [go_sem, qA, qB, qC, qD, qE, qF, qG, qH, hb, ga, gb]
  repeat refine K ?_
  refine ⟨?_, ?_⟩
  all_goals
    repeat refine K ?_
    cases h3 : three x.op
    · have n2 : ¬ x.op = 2 := fun e => by rw [(three_iff x.op).2 (by omega)] at h3; simp at h3
      have n3 : ¬ x.op = 3 := fun e => by rw [(three_iff x.op).2 (by omega)] at h3; simp at h3
      have n4 : ¬ x.op = 4 := fun e => by rw [(three_iff x.op).2 (by omega)] at h3; simp at h3
      by_cases h12 : x.op = 12
      · by_cases hv : va = 0
        · have hR : R = ⟨11, 0, 0, 0, x.n⟩ := by rw [hf, h3]; simp [h12, hv]
          rw [hR]
          try simp only [go_sem, qA, qB, qC, qD, qE, qF, qG, qH, h12, hv]
          repeat refine K ?_
          refine ⟨_, Sub.refl _, ?_⟩; simp [FinS, nilL, nilV, oneOr, -List.drop_one]
        · have hR : R = ⟨11, 0, 0, 0, next⟩ := by rw [hf, h3]; simp [h12, hv]
          rw [hR]
          try simp only [go_sem, qA, qB, qC, qD, qE, qF, qG, qH, h12, hv]
          repeat refine K ?_
          refine ⟨_, Sub.refl _, ?_⟩; simp [FinS, nilL, nilV, oneOr, -List.drop_one]
      · have hR : R = x := by rw [hf]; simp [h3, h12]
        rw [hR]
        try simp only [go_sem, qA, qB, qC, qD, qE, qF, qG, qH, n2, n3, n4, h12]
        repeat refine K ?_
        refine ⟨_, Sub.refl _, ?_⟩; simp [FinS, nilL, nilV, oneOr, -List.drop_one]
    have h3' := (three_iff x.op).1 h3
    have n12 : ¬ x.op = 12 := by omega
    have hcf : ib = false ∨ within cv (-1000000000) 1000000000 = false → R = x := fun h => by
      rw [hf]
      rcases h with h | h <;> simp [h, n12]
    rcases h3' with h2 | h2 | h2
    all_goals
      rw [h2] at hcp
      try simp only [go_sem, qA, qB, qC, qD, qE, qF, qG, qH, h2]
      repeat refine K ?_
      refine CA [] (hcp) ?_
      try simp only [go_sem, qA, qB, qC, qD, qE, qF, qG, qH]
      repeat refine K ?_
      try simp only [go_sem, qA, qB, qC, qD, qE, qF, qG, qH, h2]
      repeat refine K ?_
      cases hib : ib
      · have hR := hcf (.inl hib)
        rw [hR]
        try simp only [go_sem, qA, qB, qC, qD, qE, qF, qG, qH, h2, hib]
        repeat refine K ?_
        refine ⟨_, Sub.refl _, ?_⟩; simp [FinS, nilL, nilV, oneOr, -List.drop_one]
        all_goals (try simp [h2])
      try simp only [go_sem, qA, qB, qC, qD, qE, qF, qG, qH, h2, hib]
      repeat refine K ?_
      refine CA [] (within_ok cv (-1000000000) 1000000000) ?_
      try simp only [go_sem, qA, qB, qC, qD, qE, qF, qG, qH]
      repeat refine K ?_
      cases hw : within cv (-1000000000) 1000000000
      · have hR := hcf (.inr hw)
        rw [hR]
        try simp only [go_sem, qA, qB, qC, qD, qE, qF, qG, qH, h2, hib, hw]
        repeat refine K ?_
        refine ⟨_, Sub.refl _, ?_⟩; simp [FinS, nilL, nilV, oneOr, -List.drop_one]
        all_goals (try simp [h2])
      have hR : R = ⟨1, x.r, 0, 0, cv⟩ := by rw [hf]; simp [h3, hib, hw]
      rw [hR]
      try simp only [go_sem, qA, qB, qC, qD, qE, qF, qG, qH, h2, hib, hw]
      repeat refine K ?_
      refine ⟨_, Sub.refl _, ?_⟩; simp [FinS, nilL, nilV, oneOr, -List.drop_one]
set_option maxHeartbeats 8000000 in
theorem specFoldOne_ok (x : Ins) (k : KV) (next : Int) (hk : k.length < 2 ^ 40) : CallOk Try.prog num 290 [.agg (insC x), .sl .bw 2 (knowns k), .int .i64 next] [] (.agg (insC (foldOne x k next))) := by
  refine enter (m := m290) (f := 290) (fn := Try.f237) Try.func237 (by kernel_rfl) rfl c290 rfl (by simp [Try.f237]) (by simp [bnds, bnd, nf_sl, nf_int, nf_bool, nf_str, ints_bnd]) (fun _ _ h => by simp [preH, look] at h) ?_
  unfold m290
  simp only [go_sem, qA, qB, qC, qD, qE, qF, qG, qH]
  repeat refine K ?_
  by_cases h4 : (k.length : Int) = 4
  case neg =>
    have hf := foldOne_out (x := x) (k := k) (fun h => h4 (by omega)) next
    rw [hf]
    try simp only [go_sem, qA, qB, qC, qD, qE, qF, qG, qH, h4]
    repeat refine K ?_
    refine ⟨_, Sub.refl _, ?_⟩; simp [FinS, nilL, nilV, oneOr, -List.drop_one]
  have h4' : k.length = 4 := by omega
  try simp only [go_sem, qA, qB, qC, qD, qE, qF, qG, qH, h4]
  repeat refine K ?_
  refine CA [] (l1In_ok x.a 0 3) ?_
  try simp only [go_sem, qA, qB, qC, qD, qE, qF, qG, qH]
  repeat refine K ?_
  cases ha : within x.a 0 3
  · have hf := foldOne_out (x := x) (k := k) (fun h => by rw [ha] at h; simp at h) next
    rw [hf]
    try simp only [go_sem, qA, qB, qC, qD, qE, qF, qG, qH, ha]
    repeat refine K ?_
    refine ⟨_, Sub.refl _, ?_⟩; simp [FinS, nilL, nilV, oneOr, -List.drop_one]
  try simp only [go_sem, qA, qB, qC, qD, qE, qF, qG, qH, ha]
  repeat refine K ?_
  refine CA [] (l1In_ok x.b 0 3) ?_
  try simp only [go_sem, qA, qB, qC, qD, qE, qF, qG, qH]
  repeat refine K ?_
  cases hb : within x.b 0 3
  · have hf := foldOne_out (x := x) (k := k) (fun h => by rw [hb] at h; simp at h) next
    rw [hf]
    try simp only [go_sem, qA, qB, qC, qD, qE, qF, qG, qH, hb]
    repeat refine K ?_
    refine ⟨_, Sub.refl _, ?_⟩; simp [FinS, nilL, nilV, oneOr, -List.drop_one]
  have hf := foldOne_in h4' ha hb next
  have ha' := within_iff.1 ha
  have hb' := within_iff.1 hb
  have ga := knowns_getD k x.a.toNat (by omega)
  have gb := knowns_getD k x.b.toNat (by omega)
  generalize foldOne x k next = R at hf
  have hcp := l19Of_ok x.op (k.getD x.a.toNat default).v (k.getD x.b.toNat default).v
  generalize k.getD x.a.toNat default = ka at ga hcp hf
  generalize k.getD x.b.toNat default = kb at gb hcp hf
  generalize compute x.op ka.v kb.v = cv at hcp hf
  obtain ⟨ia, va⟩ := ka
  obtain ⟨ib, vb⟩ := kb
  simp only at ga gb hcp hf
  try simp only [go_sem, qA, qB, qC, qD, qE, qF, qG, qH, hb]
  repeat refine K ?_
  refine CA [] (l19Three_ok x.op) ?_
  try simp only [go_sem, qA, qB, qC, qD, qE, qF, qG, qH]
  repeat refine K ?_
  have hlast : three x.op = false ∨ ia = false ∨ ib = false ∨ within cv (-1000000000) 1000000000 = false → R = if x.op = 12 ∧ ia = true then if va = 0 then ⟨11, 0, 0, 0, x.n⟩ else ⟨11, 0, 0, 0, next⟩ else x := fun h => by
    rw [hf, if_neg]
    rcases h with h | h | h | h <;> simp [h]
  cases h3 : three x.op
  · have hR := hlast (.inl h3)
    try simp only [go_sem, qA, qB, qC, qD, qE, qF, qG, qH, h3]
    repeat refine K ?_
    by_cases h12 : x.op = 12
    · try simp only [go_sem, qA, qB, qC, qD, qE, qF, qG, qH, h12, ga]
      repeat refine K ?_
      cases ia
      · simp [h12] at hR
        rw [hR]
        try simp only [go_sem, qA, qB, qC, qD, qE, qF, qG, qH]
        repeat refine K ?_
        refine ⟨_, Sub.refl _, ?_⟩; simp [FinS, nilL, nilV, oneOr, -List.drop_one]
        all_goals (try simp [h12])
      try simp only [go_sem, qA, qB, qC, qD, qE, qF, qG, qH, ga]
      repeat refine K ?_
      by_cases hv : va = 0
      · simp [h12, hv] at hR
        rw [hR]
        try simp only [go_sem, qA, qB, qC, qD, qE, qF, qG, qH, hv]
        repeat refine K ?_
        refine ⟨_, Sub.refl _, ?_⟩; simp [FinS, nilL, nilV, oneOr, -List.drop_one]
      · simp [h12, hv] at hR
        rw [hR]
        try simp only [go_sem, qA, qB, qC, qD, qE, qF, qG, qH, hv]
        repeat refine K ?_
        refine ⟨_, Sub.refl _, ?_⟩; simp [FinS, nilL, nilV, oneOr, -List.drop_one]
    · simp [h12] at hR
      rw [hR]
      try simp only [go_sem, qA, qB, qC, qD, qE, qF, qG, qH, h12]
      repeat refine K ?_
      refine ⟨_, Sub.refl _, ?_⟩; simp [FinS, nilL, nilV, oneOr, -List.drop_one]
  have n12 : ¬ x.op = 12 := by have := (three_iff x.op).1 h3; omega
  simp only [n12, false_and, if_false] at hlast
  try simp only [go_sem, qA, qB, qC, qD, qE, qF, qG, qH, h3, ga]
  repeat refine K ?_
  cases ia
  · rw [hlast (.inr (.inl rfl))]
    try simp only [go_sem, qA, qB, qC, qD, qE, qF, qG, qH, n12]
    repeat refine K ?_
    refine ⟨_, Sub.refl _, ?_⟩; simp [FinS, nilL, nilV, oneOr, -List.drop_one]
  try simp only [go_sem, qA, qB, qC, qD, qE, qF, qG, qH, gb]
  repeat refine K ?_
  cases ib
  · rw [hlast (.inr (.inr (.inl rfl)))]
    try simp only [go_sem, qA, qB, qC, qD, qE, qF, qG, qH, n12]
    repeat refine K ?_
    refine ⟨_, Sub.refl _, ?_⟩; simp [FinS, nilL, nilV, oneOr, -List.drop_one]
  try simp only [go_sem, qA, qB, qC, qD, qE, qF, qG, qH, ga, gb]
  repeat refine K ?_
  refine DA [] (hcp) ?_
  try simp only [go_sem, qA, qB, qC, qD, qE, qF, qG, qH]
  repeat refine K ?_
  try simp only [go_sem, qA, qB, qC, qD, qE, qF, qG, qH]
  repeat refine K ?_
  refine CA [] (l1In_ok cv (-1000000000) 1000000000) ?_
  try simp only [go_sem, qA, qB, qC, qD, qE, qF, qG, qH]
  repeat refine K ?_
  cases hw : within cv (-1000000000) 1000000000
  · rw [hlast (.inr (.inr (.inr hw)))]
    try simp only [go_sem, qA, qB, qC, qD, qE, qF, qG, qH, hw, n12]
    repeat refine K ?_
    refine ⟨_, Sub.refl _, ?_⟩; simp [FinS, nilL, nilV, oneOr, -List.drop_one]
  have hR : R = ⟨1, x.r, 0, 0, cv⟩ := by rw [hf]; simp [h3, hw]
  rw [hR]
  try simp only [go_sem, qA, qB, qC, qD, qE, qF, qG, qH, hw]
  repeat refine K ?_
  refine ⟨_, Sub.refl _, ?_⟩; simp [FinS, nilL, nilV, oneOr, -List.drop_one]


end Go.Sep
