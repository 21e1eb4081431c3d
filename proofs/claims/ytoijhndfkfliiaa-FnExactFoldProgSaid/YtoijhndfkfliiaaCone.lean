/- Contracts of functions. -/
import Derived.Test.YtoijhndfkfliiaaCond
namespace Go.Sep
open Go.Proofs
set_option linter.unusedSimpArgs false
set_option linter.unusedVariables false
set_option maxRecDepth 100000
def m24 : MFn := ⟨41, [.cell 2 3 true, .t 3], .seq (xr [xo 1 (.box (.t 0)), xo 2 (.alloc [.nil, .nil, .nil]), xo 3 (.mv (.c (.bool false)))]) (.seq (xr [xo 7 (.build [.nil, .nil, .nil] []), xo 4 (.alloc [.nil, .nil, .nil]), ⟨none, .store 3 (.t 4) (.t 7), none⟩]) (.seq (.seq (xr [xo 8 (.load 2 true (.t 1)), xo 9 (.call 48 [false] [.t 8]), xo 10 (.un .«not» (.t 9))]) (.cond 10 (.seq (xr [xo 11 (.load 3 true (.t 4)), ⟨none, .store 3 (.t 2) (.t 11), none⟩, xo 3 (.mv (.c (.bool false)))]) (.ret)) (.skip))) (.seq (.seq (xr [xo 12 (.fad 1 (.t 1)), xo 13 (.load 1 false (.t 12)), xo 14 (.len (.t 13)), xo 15 (.mv (xi 0))]) (.blk 0 (.loop (.seq (xr [xo 16 (.bin .lss (.t 15) (.t 14))]) (.seq (.cond 16 (.skip) (.exit 0)) (.seq (.blk 1 (.dreg (.take 0 (xo 17 (.fad 0 (.t 4))) (.take 1 (xo 18 (.load 1 false (.t 17))) (.only 2 [] (xo 19 (.mkS [xz] 8 (xi 4) (xi 4))) (.only 3 [] (xo 20 (.build [.int .i64 0, .nil, .int .i64 0] [(1, 1, .t 19)])) (.only 4 [] (xo 21 (.mkSl [.int .i64 0, .nil, .int .i64 0] 1 [(0, .t 20)])) (.only 5 [1] (xo 22 (.app 3 40 (.t 18) (.t 21))) (.only 6 [0, 1] (xo 23 (.fad 0 (.t 4))) (.only 7 [0, 1] ⟨none, .store 1 (.t 23) (.t 22), none⟩ (.done))))))))))) (xr [xo 24 (.bin .add (.t 15) (xi 1)), xv 15 24]))))))) (.seq (.seq (xr [xo 25 (.fad 0 (.t 1)), xo 26 (.load 1 false (.t 25)), xo 27 (.len (.t 26)), xo 28 (.mv (xi 0))]) (.blk 2 (.loop (.seq (xr [xo 29 (.bin .lss (.t 28) (.t 27))]) (.seq (.cond 29 (.skip) (.exit 2)) (.seq (.blk 3 (.seq (xr [xo 30 (.iad 1 (.t 26) (.t 28)), xo 31 (.load 1 false (.t 30)), xv 6 31]) (xr [xo 32 (.fad 1 (.t 4)), xo 33 (.load 1 false (.t 32)), xv 34 6, xo 35 (.build [.int .i64 0, .nil, .bool false] [(0, 1, .t 34)]), xo 36 (.mkSl [.int .i64 0, .nil, .bool false] 1 [(0, .t 35)]), xo 37 (.app 3 40 (.t 33) (.t 36)), xo 38 (.fad 1 (.t 4)), ⟨none, .store 1 (.t 38) (.t 37), none⟩]))) (xr [xo 39 (.bin .add (.t 28) (xi 1)), xv 28 39]))))))) (.seq (xr [xo 40 (.load 3 true (.t 4)), ⟨none, .store 3 (.t 2) (.t 40), none⟩, xo 3 (.mv (.c (.bool true)))]) (.ret))))))⟩
theorem c24 : chkC Try.prog num Try.f30.ntmps m24.body ((Try.f30.body).getD .skip) = true := by kernel_rfl
def m41 : MFn := ⟨98, [.t 6], .seq (xr [xo 3 (.box (.t 0)), xo 6 (.mv (xi 0))]) (.seq (.seq (xr [xv 12 2, xv 13 1, xo 14 (.nilck (.t 13)), xo 15 (.fad 0 (.t 14)), xo 16 (.load 1 false (.t 15)), xo 17 (.len (.t 16)), xo 18 (.bin .sub (.t 17) (xi 1)), xo 19 (.call 59 [false, false, false] [.t 12, xi 0, .t 18]), xo 20 (.un .«not» (.t 19))]) (.cond 20 (.seq (xr [xo 6 (.mv (xi 2))]) (.ret)) (.skip))) (.seq (xr [xv 21 1, xo 22 (.nilck (.t 21)), xo 23 (.fad 0 (.t 22)), xo 24 (.load 1 false (.t 23)), xv 25 2, xo 26 (.iad 3 (.t 24) (.t 25)), xo 27 (.load 3 true (.t 26)), xo 7 (.alloc [.int .i64 0, .nil, .int .i64 0]), ⟨none, .store 3 (.t 7) (.t 27), none⟩]) (.seq (.dreg (.take 0 (xo 28 (.fad 1 (.t 3))) (.take 1 (xo 29 (.load 1 false (.t 28))) (.take 2 (xv 30 2) (.take 3 (xo 31 (.iad 1 (.t 29) (.t 30))) (.take 4 (xo 32 (.load 1 false (.t 31))) (.take 5 (xo 33 (.fad 0 (.t 7))) (.take 6 (xo 34 (.load 1 false (.t 33))) (.take 7 (xo 35 (.iad 5 (.t 32) (.t 34))) (.take 8 (xo 36 (.load 5 true (.t 35))) (.only 9 [] (xo 8 (.alloc [xz, xz, xz, xz, xz])) (.only 10 [0, 1, 2, 3, 4, 5, 6, 7, 8] ⟨none, .store 5 (.t 8) (.t 36), none⟩ (.done))))))))))))) (.seq (.seq (xr [xo 37 (.fad 2 (.t 7)), xo 38 (.load 1 false (.t 37)), xo 39 (.bin .neq (.t 38) (xi 0)), xv 40 39, xg 41 (.fad 0 (.t 8)) 40 false, xg 42 (.load 1 false (.t 41)) 40 false, xg 43 (.bin .eql (.t 42) (xi 10)) 40 false, xg 44 (.mv (.t 43)) 40 false, xg 45 (.mv (.t 1)) 44 true, xg 46 (.nilck (.t 45)) 44 true, xg 47 (.fad 2 (.t 46)) 44 true, xg 48 (.load 1 false (.t 47)) 44 true, xg 49 (.len (.t 48)) 44 true, xg 50 (.bin .eql (.t 49) (xi 4000)) 44 true, xg 51 (.pick (.t 44) (.t 50) (.c (.bool false))) 40 false, xo 52 (.pick (.t 40) (.c (.bool true)) (.t 51))]) (.cond 52 (.seq (xr [xo 6 (.mv (xi 3))]) (.ret)) (.skip))) (.seq (.seq (xr [xo 53 (.fad 0 (.t 8)), xo 54 (.load 1 false (.t 53)), xo 55 (.bin .neq (.t 54) (xi 5)), xv 56 55, xg 57 (.fad 0 (.t 8)) 56 true, xg 58 (.load 1 false (.t 57)) 56 true, xg 59 (.bin .neq (.t 58) (xi 6)) 56 true, xo 60 (.pick (.t 56) (.t 59) (.c (.bool false)))]) (.cond 60 (.seq (xr [xo 6 (.mv (xi 0))]) (.ret)) (.skip))) (.seq (.dreg (.take 0 (xv 61 1) (.take 1 (xo 62 (.nilck (.t 61))) (.take 2 (xo 63 (.fad 1 (.t 62))) (.take 3 (xo 64 (.load 1 false (.t 63))) (.take 4 (xo 65 (.fad 4 (.t 8))) (.take 5 (xo 66 (.load 1 false (.t 65))) (.take 6 (xo 67 (.iad 3 (.t 64) (.t 66))) (.take 7 (xo 68 (.load 3 true (.t 67))) (.only 8 [] (xo 9 (.alloc [.int .i64 0, .nil, .bool false])) (.only 9 [0, 1, 2, 3, 4, 5, 6, 7] ⟨none, .store 3 (.t 9) (.t 68), none⟩ (.done)))))))))))) (.seq (xr [xo 69 (.fad 0 (.t 8)), xo 70 (.load 1 false (.t 69)), xo 71 (.bin .eql (.t 70) (xi 5)), xv 72 71, xg 73 (.fad 1 (.t 9)) 72 true, xg 74 (.load 1 false (.t 73)) 72 true, xg 75 (.len (.t 74)) 72 true, xg 76 (.fad 0 (.t 9)) 72 true, xg 77 (.load 1 false (.t 76)) 72 true, xg 78 (.bin .eql (.t 75) (.t 77)) 72 true, xo 79 (.pick (.t 72) (.t 78) (.c (.bool false))), xv 10 79]) (.seq (xr [xo 80 (.fad 0 (.t 8)), xo 81 (.load 1 false (.t 80)), xo 82 (.bin .eql (.t 81) (xi 6)), xv 83 82, xg 84 (.fad 1 (.t 9)) 83 true, xg 85 (.load 1 false (.t 84)) 83 true, xg 86 (.len (.t 85)) 83 true, xg 87 (.bin .eql (.t 86) (xi 0)) 83 true, xo 88 (.pick (.t 83) (.t 87) (.c (.bool false))), xv 11 88]) (.seq (.seq (xr [xo 89 (.fad 2 (.t 9)), xo 90 (.load 1 false (.t 89)), xo 91 (.un .«not» (.t 90)), xv 92 91, xg 93 (.mv (.t 10)) 92 true, xg 94 (.mv (.t 93)) 92 true, xg 95 (.mv (.t 11)) 94 false, xg 96 (.pick (.t 94) (.c (.bool true)) (.t 95)) 92 true, xo 97 (.pick (.t 92) (.t 96) (.c (.bool false)))]) (.cond 97 (.seq (xr [xo 6 (.mv (xi 4))]) (.ret)) (.skip))) (.seq (xr [xo 6 (.mv (xi 0))]) (.ret)))))))))))⟩
theorem c41 : chkC Try.prog num Try.f180.ntmps m41.body ((Try.f180.body).getD .skip) = true := by kernel_rfl
def m45 : MFn := ⟨45, [.cell 2 3 true, .t 3], .seq (xr [xo 1 (.box (.t 0)), xo 2 (.alloc [.nil, .nil, .nil]), xo 3 (.mv (.c (.bool false)))]) (.seq (.seq (xr [xo 7 (.load 2 true (.t 1)), xo 8 (.call 62 [false] [.t 7]), xo 9 (.un .«not» (.t 8))]) (.cond 9 (.seq (xr [xo 10 (.build [.nil, .nil, .nil] []), ⟨none, .store 3 (.t 2) (.t 10), none⟩, xo 3 (.mv (.c (.bool false)))]) (.ret)) (.skip))) (.seq (xr [xo 11 (.build [.nil, .nil, .nil] []), xo 4 (.alloc [.nil, .nil, .nil]), ⟨none, .store 3 (.t 4) (.t 11), none⟩]) (.seq (.seq (xr [xo 5 (.mv (xi 0))]) (.blk 0 (.loop (.seq (.seq (xr [xv 12 5, xo 13 (.fad 1 (.t 1)), xo 14 (.load 1 false (.t 13)), xo 15 (.len (.t 14)), xo 16 (.bin .lss (.t 12) (.t 15))]) (.cond 16 (.skip) (.exit 0))) (.seq (.blk 1 (.dreg (.take 0 (xo 19 (.fad 0 (.t 4))) (.take 1 (xo 20 (.load 1 false (.t 19))) (.only 2 [] (xo 21 (.mkS [xz] 8 (xi 4) (xi 4))) (.only 3 [] (xo 22 (.build [.int .i64 0, .nil, .int .i64 0] [(1, 1, .t 21)])) (.only 4 [] (xo 23 (.mkSl [.int .i64 0, .nil, .int .i64 0] 1 [(0, .t 22)])) (.only 5 [1] (xo 24 (.app 3 40 (.t 20) (.t 23))) (.only 6 [0, 1] (xo 25 (.fad 0 (.t 4))) (.only 7 [0, 1] ⟨none, .store 1 (.t 25) (.t 24), none⟩ (.done))))))))))) (xr [xv 17 5, xo 18 (.bin .add (.t 17) (xi 1)), xv 5 18])))))) (.seq (.seq (xr [xo 6 (.mv (xi 0))]) (.blk 2 (.loop (.seq (.seq (xr [xv 26 6, xo 27 (.fad 0 (.t 1)), xo 28 (.load 1 false (.t 27)), xo 29 (.len (.t 28)), xo 30 (.bin .lss (.t 26) (.t 29))]) (.cond 30 (.skip) (.exit 2))) (.seq (.blk 3 (.dreg (.take 0 (xo 33 (.fad 1 (.t 4))) (.take 1 (xo 34 (.load 1 false (.t 33))) (.take 2 (xo 35 (.fad 0 (.t 1))) (.take 3 (xo 36 (.load 1 false (.t 35))) (.only 4 [] (xv 37 6) (.only 5 [3] (xo 38 (.iad 1 (.t 36) (.t 37))) (.only 6 [] (xo 39 (.load 1 false (.t 38))) (.only 7 [] (xo 40 (.build [.int .i64 0, .nil, .bool false] [(0, 1, .t 39)])) (.only 8 [] (xo 41 (.mkSl [.int .i64 0, .nil, .bool false] 1 [(0, .t 40)])) (.only 9 [1] (xo 42 (.app 3 40 (.t 34) (.t 41))) (.only 10 [0, 1, 2, 3] (xo 43 (.fad 1 (.t 4))) (.only 11 [0, 1, 2, 3] ⟨none, .store 1 (.t 43) (.t 42), none⟩ (.done))))))))))))))) (xr [xv 31 6, xo 32 (.bin .add (.t 31) (xi 1)), xv 6 32])))))) (.seq (xr [xo 44 (.load 3 true (.t 4)), ⟨none, .store 3 (.t 2) (.t 44), none⟩, xo 3 (.mv (.c (.bool true)))]) (.ret))))))⟩
theorem c45 : chkC Try.prog num Try.f70.ntmps m45.body ((Try.f70.body).getD .skip) = true := by kernel_rfl
def m49 : MFn := ⟨49, [.cell 2 3 true], .seq (xr [xo 1 (.box (.t 0)), xo 2 (.alloc [.nil, .nil, .nil])]) (.seq (xr [xo 8 (.fad 2 (.t 1)), xo 9 (.load 1 false (.t 8)), xo 10 (.call 69 [false] [.t 9]), xo 11 (.build [.nil, .nil, .nil] [(2, 1, .t 10)]), xo 3 (.alloc [.nil, .nil, .nil]), ⟨none, .store 3 (.t 3) (.t 11), none⟩]) (.seq (.seq (xr [xo 12 (.fad 0 (.t 1)), xo 13 (.load 1 false (.t 12)), xo 14 (.len (.t 13)), xo 15 (.mv (xi 0))]) (.blk 0 (.loop (.seq (xr [xo 16 (.bin .lss (.t 15) (.t 14))]) (.seq (.cond 16 (.skip) (.exit 0)) (.seq (.blk 1 (.seq (xr [xo 17 (.iad 3 (.t 13) (.t 15)), xo 18 (.load 3 true (.t 17)), xo 5 (.alloc [.int .i64 0, .nil, .int .i64 0]), ⟨none, .store 3 (.t 5) (.t 18), none⟩]) (.dreg (.take 0 (xo 19 (.fad 0 (.t 3))) (.take 1 (xo 20 (.load 1 false (.t 19))) (.take 2 (xo 21 (.fad 0 (.t 5))) (.take 3 (xo 22 (.load 1 false (.t 21))) (.take 4 (xo 23 (.fad 1 (.t 5))) (.take 5 (xo 24 (.load 1 false (.t 23))) (.take 7 (xo 26 (.fad 2 (.t 5))) (.take 8 (xo 27 (.load 1 false (.t 26))) (.only 6 [5] (xo 25 (.call 36 [false] [.t 24])) (.only 9 [3, 8] (xo 28 (.build [.int .i64 0, .nil, .int .i64 0] [(0, 1, .t 22), (1, 1, .t 25), (2, 1, .t 27)])) (.only 10 [] (xo 29 (.mkSl [.int .i64 0, .nil, .int .i64 0] 1 [(0, .t 28)])) (.only 11 [1] (xo 30 (.app 3 40 (.t 20) (.t 29))) (.only 12 [0, 1, 2, 3, 4, 5, 7, 8] (xo 31 (.fad 0 (.t 3))) (.only 13 [0, 1, 2, 3, 4, 5, 7, 8] ⟨none, .store 1 (.t 31) (.t 30), none⟩ (.done)))))))))))))))))) (xr [xo 32 (.bin .add (.t 15) (xi 1)), xv 15 32]))))))) (.seq (.seq (xr [xo 33 (.fad 1 (.t 1)), xo 34 (.load 1 false (.t 33)), xo 35 (.len (.t 34)), xo 36 (.mv (xi 0))]) (.blk 2 (.loop (.seq (xr [xo 37 (.bin .lss (.t 36) (.t 35))]) (.seq (.cond 37 (.skip) (.exit 2)) (.seq (.blk 3 (.seq (xr [xo 38 (.iad 3 (.t 34) (.t 36)), xo 39 (.load 3 true (.t 38)), xo 7 (.alloc [.int .i64 0, .nil, .bool false]), ⟨none, .store 3 (.t 7) (.t 39), none⟩]) (.dreg (.take 0 (xo 40 (.fad 1 (.t 3))) (.take 1 (xo 41 (.load 1 false (.t 40))) (.only 2 [] (xo 42 (.load 3 true (.t 7))) (.only 3 [] (xo 43 (.call 70 [false] [.t 42])) (.only 4 [] (xo 44 (.mkSl [.int .i64 0, .nil, .bool false] 1 [(0, .t 43)])) (.only 5 [1] (xo 45 (.app 3 40 (.t 41) (.t 44))) (.only 6 [0, 1] (xo 46 (.fad 1 (.t 3))) (.only 7 [0, 1] ⟨none, .store 1 (.t 46) (.t 45), none⟩ (.done)))))))))))) (xr [xo 47 (.bin .add (.t 36) (xi 1)), xv 36 47]))))))) (.seq (xr [xo 48 (.load 3 true (.t 3)), ⟨none, .store 3 (.t 2) (.t 48), none⟩]) (.ret)))))⟩
theorem c49 : chkC Try.prog num Try.f98.ntmps m49.body ((Try.f98.body).getD .skip) = true := by kernel_rfl
def m50 : MFn := ⟨93, [.t 4], .seq (xr [xo 2 (.box (.t 0)), xo 3 (.box (.t 1)), xo 4 (.mv (.c (.bool false)))]) (.seq (.seq (xr [xo 9 (.load 2 true (.t 2)), xo 10 (.call 48 [false] [.t 9]), xo 11 (.un .«not» (.t 10)), xv 12 11, xg 13 (.fad 0 (.t 3)) 12 false, xg 14 (.load 1 false (.t 13)) 12 false, xg 15 (.len (.t 14)) 12 false, xg 16 (.fad 1 (.t 2)) 12 false, xg 17 (.load 1 false (.t 16)) 12 false, xg 18 (.len (.t 17)) 12 false, xg 19 (.bin .neq (.t 15) (.t 18)) 12 false, xo 20 (.pick (.t 12) (.c (.bool true)) (.t 19)), xv 21 20, xg 22 (.fad 1 (.t 3)) 21 false, xg 23 (.load 1 false (.t 22)) 21 false, xg 24 (.len (.t 23)) 21 false, xg 25 (.fad 0 (.t 2)) 21 false, xg 26 (.load 1 false (.t 25)) 21 false, xg 27 (.len (.t 26)) 21 false, xg 28 (.bin .neq (.t 24) (.t 27)) 21 false, xo 29 (.pick (.t 21) (.c (.bool true)) (.t 28)), xv 30 29, xg 31 (.fad 2 (.t 3)) 30 false, xg 32 (.load 1 false (.t 31)) 30 false, xg 33 (.fad 0 (.t 3)) 30 false, xg 34 (.load 1 false (.t 33)) 30 false, xg 35 (.len (.t 34)) 30 false, xg 36 (.call 71 [false, false] [.t 32, .t 35]) 30 false, xg 37 (.un .«not» (.t 36)) 30 false, xo 38 (.pick (.t 30) (.c (.bool true)) (.t 37))]) (.cond 38 (.seq (xr [xo 4 (.mv (.c (.bool false)))]) (.ret)) (.skip))) (.seq (.seq (xr [xo 39 (.fad 0 (.t 3)), xo 40 (.load 1 false (.t 39)), xo 41 (.len (.t 40)), xo 42 (.mv (xi 0))]) (.blk 0 (.loop (.seq (xr [xo 43 (.bin .lss (.t 42) (.t 41))]) (.seq (.cond 43 (.skip) (.exit 0)) (.seq (.blk 1 (.seq (xr [xv 44 42, xo 45 (.iad 3 (.t 40) (.t 42)), xo 46 (.load 3 true (.t 45)), xo 6 (.alloc [.int .i64 0, .nil, .int .i64 0]), xv 5 44, ⟨none, .store 3 (.t 6) (.t 46), none⟩]) (.seq (.dreg (.only 0 [] (xo 47 (.fad 1 (.t 6))) (.only 1 [] (xo 48 (.load 1 false (.t 47))) (.only 2 [] (xo 49 (.len (.t 48))) (.only 3 [] (xo 50 (.bin .neq (.t 49) (xi 4))) (.only 4 [] (xv 51 50) (.only 5 [] (xg 52 (.fad 2 (.t 6)) 51 false) (.only 6 [] (xg 53 (.load 1 false (.t 52)) 51 false) (.only 7 [] (xg 54 (.call 59 [false, false, false] [.t 53, xi 0, xi 2]) 51 false) (.only 8 [] (xg 55 (.un .«not» (.t 54)) 51 false) (.only 9 [] (xo 56 (.pick (.t 51) (.c (.bool true)) (.t 55))) (.only 10 [] (xv 57 56) (.take 11 (xg 58 (.fad 0 (.t 6)) 57 false) (.take 12 (xg 59 (.load 1 false (.t 58)) 57 false) (.take 13 (xg 60 (.fad 1 (.t 2)) 57 false) (.take 14 (xg 61 (.load 1 false (.t 60)) 57 false) (.only 15 [] (xg 62 (.mv (.t 5)) 57 false) (.only 16 [14] (xg 63 (.iad 1 (.t 61) (.t 62)) 57 false) (.only 17 [] (xg 64 (.load 1 false (.t 63)) 57 false) (.only 18 [] (xg 65 (.len (.t 64)) 57 false) (.only 19 [] (xg 66 (.bin .sub (.t 65) (xi 1)) 57 false) (.only 20 [12] (xg 67 (.call 59 [false, false, false] [.t 59, xi 0, .t 66]) 57 false) (.only 21 [] (xg 68 (.un .«not» (.t 67)) 57 false) (.only 22 [] (xo 69 (.pick (.t 57) (.c (.bool true)) (.t 68))) (.done))))))))))))))))))))))))) (.cond 69 (.seq (xr [xo 4 (.mv (.c (.bool false)))]) (.ret)) (.skip))))) (xr [xo 70 (.bin .add (.t 42) (xi 1)), xv 42 70]))))))) (.seq (.seq (xr [xo 71 (.fad 1 (.t 3)), xo 72 (.load 1 false (.t 71)), xo 73 (.len (.t 72)), xo 74 (.mv (xi 0))]) (.blk 2 (.loop (.seq (xr [xo 75 (.bin .lss (.t 74) (.t 73))]) (.seq (.cond 75 (.skip) (.exit 2)) (.seq (.blk 3 (.seq (xr [xv 76 74, xo 77 (.iad 3 (.t 72) (.t 74)), xo 78 (.load 3 true (.t 77)), xo 8 (.alloc [.int .i64 0, .nil, .bool false]), xv 7 76, ⟨none, .store 3 (.t 8) (.t 78), none⟩]) (.seq (.dreg (.only 0 [] (xo 79 (.load 3 true (.t 8))) (.only 1 [] (xo 80 (.call 72 [false] [.t 79])) (.only 2 [] (xo 81 (.un .«not» (.t 80))) (.only 3 [] (xv 82 81) (.take 4 (xg 83 (.fad 0 (.t 8)) 82 false) (.take 5 (xg 84 (.load 1 false (.t 83)) 82 false) (.take 6 (xg 85 (.fad 0 (.t 2)) 82 false) (.take 7 (xg 86 (.load 1 false (.t 85)) 82 false) (.only 8 [] (xg 87 (.mv (.t 7)) 82 false) (.only 9 [7] (xg 88 (.iad 1 (.t 86) (.t 87)) 82 false) (.only 10 [] (xg 89 (.load 1 false (.t 88)) 82 false) (.only 11 [5] (xg 90 (.bin .neq (.t 84) (.t 89)) 82 false) (.only 12 [] (xo 91 (.pick (.t 82) (.c (.bool true)) (.t 90))) (.done))))))))))))))) (.cond 91 (.seq (xr [xo 4 (.mv (.c (.bool false)))]) (.ret)) (.skip))))) (xr [xo 92 (.bin .add (.t 74) (xi 1)), xv 74 92]))))))) (.seq (xr [xo 4 (.mv (.c (.bool true)))]) (.ret)))))⟩
theorem c50 : chkC Try.prog num Try.f79.ntmps m50.body ((Try.f79.body).getD .skip) = true := by kernel_rfl
def m63 : MFn := ⟨118, [.t 4], .seq (xr [xo 2 (.box (.t 0)), xo 3 (.box (.t 1)), xo 4 (.mv (.c (.bool false)))]) (.seq (.seq (xr [xo 9 (.load 2 true (.t 2)), xo 10 (.call 62 [false] [.t 9]), xo 11 (.un .«not» (.t 10)), xv 12 11, xg 13 (.fad 0 (.t 3)) 12 false, xg 14 (.load 1 false (.t 13)) 12 false, xg 15 (.len (.t 14)) 12 false, xg 16 (.fad 1 (.t 2)) 12 false, xg 17 (.load 1 false (.t 16)) 12 false, xg 18 (.len (.t 17)) 12 false, xg 19 (.bin .neq (.t 15) (.t 18)) 12 false, xo 20 (.pick (.t 12) (.c (.bool true)) (.t 19)), xv 21 20, xg 22 (.fad 1 (.t 3)) 21 false, xg 23 (.load 1 false (.t 22)) 21 false, xg 24 (.len (.t 23)) 21 false, xg 25 (.fad 0 (.t 2)) 21 false, xg 26 (.load 1 false (.t 25)) 21 false, xg 27 (.len (.t 26)) 21 false, xg 28 (.bin .neq (.t 24) (.t 27)) 21 false, xo 29 (.pick (.t 21) (.c (.bool true)) (.t 28)), xv 30 29, xg 31 (.fad 2 (.t 3)) 30 false, xg 32 (.load 1 false (.t 31)) 30 false, xg 33 (.len (.t 32)) 30 false, xg 34 (.bin .gtr (.t 33) (xi 4000)) 30 false, xo 35 (.pick (.t 30) (.c (.bool true)) (.t 34))]) (.cond 35 (.seq (xr [xo 4 (.mv (.c (.bool false)))]) (.ret)) (.skip))) (.seq (.seq (xr [xo 5 (.mv (xi 0))]) (.blk 0 (.loop (.seq (.seq (xr [xv 36 5, xo 37 (.fad 0 (.t 3)), xo 38 (.load 1 false (.t 37)), xo 39 (.len (.t 38)), xo 40 (.bin .lss (.t 36) (.t 39))]) (.cond 40 (.skip) (.exit 0))) (.seq (.blk 1 (.seq (xr [xo 43 (.fad 0 (.t 3)), xo 44 (.load 1 false (.t 43)), xv 45 5, xo 46 (.iad 3 (.t 44) (.t 45)), xo 47 (.load 3 true (.t 46)), xo 6 (.alloc [.int .i64 0, .nil, .int .i64 0]), ⟨none, .store 3 (.t 6) (.t 47), none⟩]) (.seq (.dreg (.only 0 [] (xo 48 (.fad 1 (.t 6))) (.only 1 [] (xo 49 (.load 1 false (.t 48))) (.only 2 [] (xo 50 (.len (.t 49))) (.only 3 [] (xo 51 (.bin .neq (.t 50) (xi 4))) (.only 4 [] (xv 52 51) (.only 5 [] (xg 53 (.fad 2 (.t 6)) 52 false) (.only 6 [] (xg 54 (.load 1 false (.t 53)) 52 false) (.only 7 [] (xg 55 (.call 64 [false, false, false] [.t 54, xi 0, xi 2]) 52 false) (.only 8 [] (xg 56 (.un .«not» (.t 55)) 52 false) (.only 9 [] (xo 57 (.pick (.t 52) (.c (.bool true)) (.t 56))) (.only 10 [] (xv 58 57) (.take 11 (xg 59 (.fad 0 (.t 6)) 58 false) (.take 12 (xg 60 (.load 1 false (.t 59)) 58 false) (.take 13 (xg 61 (.fad 1 (.t 2)) 58 false) (.take 14 (xg 62 (.load 1 false (.t 61)) 58 false) (.only 15 [] (xg 63 (.mv (.t 5)) 58 false) (.only 16 [14] (xg 64 (.iad 1 (.t 62) (.t 63)) 58 false) (.only 17 [] (xg 65 (.load 1 false (.t 64)) 58 false) (.only 18 [] (xg 66 (.len (.t 65)) 58 false) (.only 19 [] (xg 67 (.bin .sub (.t 66) (xi 1)) 58 false) (.only 20 [12] (xg 68 (.call 64 [false, false, false] [.t 60, xi 0, .t 67]) 58 false) (.only 21 [] (xg 69 (.un .«not» (.t 68)) 58 false) (.only 22 [] (xo 70 (.pick (.t 58) (.c (.bool true)) (.t 69))) (.done))))))))))))))))))))))))) (.cond 70 (.seq (xr [xo 4 (.mv (.c (.bool false)))]) (.ret)) (.skip))))) (xr [xv 41 5, xo 42 (.bin .add (.t 41) (xi 1)), xv 5 42])))))) (.seq (.seq (xr [xo 7 (.mv (xi 0))]) (.blk 2 (.loop (.seq (.seq (xr [xv 71 7, xo 72 (.fad 1 (.t 3)), xo 73 (.load 1 false (.t 72)), xo 74 (.len (.t 73)), xo 75 (.bin .lss (.t 71) (.t 74))]) (.cond 75 (.skip) (.exit 2))) (.seq (.blk 3 (.seq (.dreg (.take 0 (xo 78 (.fad 1 (.t 3))) (.take 1 (xo 79 (.load 1 false (.t 78))) (.only 2 [] (xv 80 7) (.only 3 [1] (xo 81 (.iad 3 (.t 79) (.t 80))) (.only 4 [] (xo 82 (.load 3 true (.t 81))) (.only 5 [] (xo 83 (.call 83 [false] [.t 82])) (.only 6 [] (xo 84 (.un .«not» (.t 83))) (.only 7 [] (xv 85 84) (.take 8 (xg 86 (.fad 1 (.t 3)) 85 false) (.take 9 (xg 87 (.load 1 false (.t 86)) 85 false) (.take 10 (xg 88 (.mv (.t 7)) 85 false) (.take 11 (xg 89 (.iad 3 (.t 87) (.t 88)) 85 false) (.take 12 (xg 90 (.fad 0 (.t 89)) 85 false) (.take 13 (xg 91 (.load 1 false (.t 90)) 85 false) (.take 14 (xg 92 (.fad 0 (.t 2)) 85 false) (.take 15 (xg 93 (.load 1 false (.t 92)) 85 false) (.only 16 [] (xg 94 (.mv (.t 7)) 85 false) (.only 17 [15] (xg 95 (.iad 1 (.t 93) (.t 94)) 85 false) (.only 18 [] (xg 96 (.load 1 false (.t 95)) 85 false) (.only 19 [13] (xg 97 (.bin .neq (.t 91) (.t 96)) 85 false) (.only 20 [] (xo 98 (.pick (.t 85) (.c (.bool true)) (.t 97))) (.done))))))))))))))))))))))) (.cond 98 (.seq (xr [xo 4 (.mv (.c (.bool false)))]) (.ret)) (.skip)))) (xr [xv 76 7, xo 77 (.bin .add (.t 76) (xi 1)), xv 7 77])))))) (.seq (.seq (xr [xo 8 (.mv (xi 0))]) (.blk 4 (.loop (.seq (.seq (xr [xv 99 8, xo 100 (.fad 2 (.t 3)), xo 101 (.load 1 false (.t 100)), xo 102 (.len (.t 101)), xo 103 (.bin .lss (.t 99) (.t 102))]) (.cond 103 (.skip) (.exit 4))) (.seq (.blk 5 (.seq (.dreg (.take 0 (xo 106 (.fad 2 (.t 3))) (.take 1 (xo 107 (.load 1 false (.t 106))) (.take 2 (xv 108 8) (.take 3 (xo 109 (.iad 2 (.t 107) (.t 108))) (.take 4 (xo 110 (.fad 0 (.t 109))) (.take 5 (xo 111 (.load 1 false (.t 110))) (.only 6 [] (xo 112 (.fad 0 (.t 3))) (.only 7 [] (xo 113 (.load 1 false (.t 112))) (.only 8 [] (xo 114 (.len (.t 113))) (.only 9 [] (xo 115 (.bin .sub (.t 114) (xi 1))) (.only 10 [5] (xo 116 (.call 64 [false, false, false] [.t 111, xi 0, .t 115])) (.only 11 [] (xo 117 (.un .«not» (.t 116))) (.done)))))))))))))) (.cond 117 (.seq (xr [xo 4 (.mv (.c (.bool false)))]) (.ret)) (.skip)))) (xr [xv 104 8, xo 105 (.bin .add (.t 104) (xi 1)), xv 8 105])))))) (.seq (xr [xo 4 (.mv (.c (.bool true)))]) (.ret))))))⟩
theorem c63 : chkC Try.prog num Try.f148.ntmps m63.body ((Try.f148.body).getD .skip) = true := by kernel_rfl
def m65 : MFn := ⟨54, [.cell 2 3 true], .seq (xr [xo 1 (.box (.t 0)), xo 2 (.alloc [.nil, .nil, .nil])]) (.seq (xr [xo 7 (.mkSl [xz, xz] 0 []), xo 8 (.fad 2 (.t 1)), xo 9 (.load 1 false (.t 8)), xo 10 (.app 2 16 (.t 7) (.t 9)), xo 11 (.build [.nil, .nil, .nil] [(2, 1, .t 10)]), xo 3 (.alloc [.nil, .nil, .nil]), ⟨none, .store 3 (.t 3) (.t 11), none⟩]) (.seq (.seq (xr [xo 4 (.mv (xi 0))]) (.blk 0 (.loop (.seq (.seq (xr [xv 12 4, xo 13 (.fad 0 (.t 1)), xo 14 (.load 1 false (.t 13)), xo 15 (.len (.t 14)), xo 16 (.bin .lss (.t 12) (.t 15))]) (.cond 16 (.skip) (.exit 0))) (.seq (.blk 1 (.seq (xr [xo 19 (.fad 0 (.t 1)), xo 20 (.load 1 false (.t 19)), xv 21 4, xo 22 (.iad 3 (.t 20) (.t 21)), xo 23 (.load 3 true (.t 22)), xo 5 (.alloc [.int .i64 0, .nil, .int .i64 0]), ⟨none, .store 3 (.t 5) (.t 23), none⟩]) (.seq (xr [xo 24 (.mkSl [xz] 0 []), xo 25 (.fad 1 (.t 5)), xo 26 (.load 1 false (.t 25)), xo 27 (.app 1 8 (.t 24) (.t 26)), xo 28 (.fad 1 (.t 5)), ⟨none, .store 1 (.t 28) (.t 27), none⟩]) (xr [xo 29 (.fad 0 (.t 3)), xo 30 (.load 1 false (.t 29)), xo 31 (.load 3 true (.t 5)), xo 32 (.mkSl [.int .i64 0, .nil, .int .i64 0] 1 [(0, .t 31)]), xo 33 (.app 3 40 (.t 30) (.t 32)), xo 34 (.fad 0 (.t 3)), ⟨none, .store 1 (.t 34) (.t 33), none⟩])))) (xr [xv 17 4, xo 18 (.bin .add (.t 17) (xi 1)), xv 4 18])))))) (.seq (.seq (xr [xo 6 (.mv (xi 0))]) (.blk 2 (.loop (.seq (.seq (xr [xv 35 6, xo 36 (.fad 1 (.t 1)), xo 37 (.load 1 false (.t 36)), xo 38 (.len (.t 37)), xo 39 (.bin .lss (.t 35) (.t 38))]) (.cond 39 (.skip) (.exit 2))) (.seq (.blk 3 (.dreg (.take 0 (xo 42 (.fad 1 (.t 3))) (.take 1 (xo 43 (.load 1 false (.t 42))) (.take 2 (xo 44 (.fad 1 (.t 1))) (.take 3 (xo 45 (.load 1 false (.t 44))) (.only 4 [] (xv 46 6) (.only 5 [3] (xo 47 (.iad 3 (.t 45) (.t 46))) (.only 6 [] (xo 48 (.load 3 true (.t 47))) (.only 7 [] (xo 49 (.call 84 [false] [.t 48])) (.only 8 [] (xo 50 (.mkSl [.int .i64 0, .nil, .bool false] 1 [(0, .t 49)])) (.only 9 [1] (xo 51 (.app 3 40 (.t 43) (.t 50))) (.only 10 [0, 1, 2, 3] (xo 52 (.fad 1 (.t 3))) (.only 11 [0, 1, 2, 3] ⟨none, .store 1 (.t 52) (.t 51), none⟩ (.done))))))))))))))) (xr [xv 40 6, xo 41 (.bin .add (.t 40) (xi 1)), xv 6 41])))))) (.seq (xr [xo 53 (.load 3 true (.t 3)), ⟨none, .store 3 (.t 2) (.t 53), none⟩]) (.ret)))))⟩
theorem c65 : chkC Try.prog num Try.f149.ntmps m65.body ((Try.f149.body).getD .skip) = true := by kernel_rfl
def m71 : MFn := ⟨23, [.t 4], .seq (xr [xo 4 (.mv (.c (.bool false)))]) (.seq (.seq (xr [xv 7 0, xo 8 (.len (.t 7)), xo 9 (.mv (xi 0))]) (.blk 0 (.loop (.seq (xr [xo 10 (.bin .lss (.t 9) (.t 8))]) (.seq (.cond 10 (.skip) (.exit 0)) (.seq (.blk 1 (.seq (xr [xo 11 (.iad 2 (.t 7) (.t 9)), xo 12 (.load 2 true (.t 11)), xo 6 (.alloc [xz, xz]), ⟨none, .store 2 (.t 6) (.t 12), none⟩]) (.seq (xr [xo 13 (.fad 0 (.t 6)), xo 14 (.load 1 false (.t 13)), xv 15 1, xo 16 (.bin .sub (.t 15) (xi 1)), xo 17 (.call 59 [false, false, false] [.t 14, xi 0, .t 16]), xo 18 (.un .«not» (.t 17))]) (.cond 18 (.seq (xr [xo 4 (.mv (.c (.bool false)))]) (.ret)) (.skip))))) (xr [xo 19 (.bin .add (.t 9) (xi 1)), xv 9 19]))))))) (.seq (xr [xv 20 0, xo 21 (.len (.t 20)), xo 22 (.bin .leq (.t 21) (xi 4000)), xv 4 22]) (.ret)))⟩
theorem c71 : chkC Try.prog num Try.f163.ntmps m71.body ((Try.f163.body).getD .skip) = true := by kernel_rfl
open Nat renaming reduceAdd → qA, reduceMul → qB, reduceEqDiff → qC, reduceBEq → qD
open Int renaming reduceToNat → qE, reduceEq → qF, reduceLT → qG, reduceLE → qH
open List renaming getD_eq_getElem?_getD → gD

def thread0 : Thread := ⟨0, [0, 0, 0, 0], 0⟩
def sourceNew (p : Prog) : Source × Bool :=
  if progOk p then (⟨List.replicate p.bods.length thread0, p.caps.map fun c => ⟨c, [], false⟩, []⟩, true) else (⟨[], [], []⟩, false)

theorem rep_succ {α : Type} (i : Nat) (x : α) : List.replicate (i + 1) x = List.replicate i x ++ [x] := List.replicate_succ'

theorem implSourceNew_ok (p : Prog) (h1 : p.caps.length < 2 ^ 40) (h2 : p.bods.length < 2 ^ 40) (h3 : ∀ b ∈ p.bods, b.length < 2 ^ 47) : CallOk Try.prog num 24 [.agg (progC .bw p)] [] (.tup [.agg (sourceC .own (sourceNew p).1), .bool (sourceNew p).2]) := by
  refine enter (m := m24) (f := 24) (fn := Try.f30) Try.func30 (by kernel_rfl) rfl c24 rfl (by simp [Try.f30]) (by simp [bnds, bnd, nf_sl, nf_int, nf_bool, nf_str, ints_bnd]) (fun _ _ h => by simp [preH, look] at h) ?_
  unfold m24
  simp only [go_sem, qA, qB, qC, qD, qE, qF, qG, qH]
  repeat refine K ?_
  refine CA [] (implProgOk_ok p (by omega) (by omega) h3) ?_
  try simp only [go_sem, qA, qB, qC, qD, qE, qF, qG, qH]
  repeat refine K ?_
  cases hok : progOk p
  · simp only [go_sem, qA, qB, qC, qD, qE, qF, qG, qH, hok]
    repeat refine K ?_
    refine ⟨_, Sub.refl _, FinS_tup (by simp) ?_⟩; simp [-List.drop_one]
    simp [sourceNew, hok, threads, chans, notes]
  · simp only [go_sem, qA, qB, qC, qD, qE, qF, qG, qH, hok]
    repeat refine K ?_
    refine loop_intro (ι := Nat) (fun i => .mk [(1, .ptr 10 0 0), (2, .ptr 11 0 0), (4, .ptr 12 0 0), (14, .int .i64 p.bods.length), (15, .int .i64 i)] [(10, 2, [progC .bw p]), (11, 3, [[.nil, .nil, .nil]]), (12, 3, [[.sl .own 3 (threads .own (List.replicate i thread0)), .nil, .nil]])] 13) (fun i => i ≤ p.bods.length) (fun i => p.bods.length - i) 0 (by simp) ?_ ?_
    · refine Sub.shape [] id (by omega) ?_ ?_ ?_ ?_ <;> simp [ints_rep]
    · rintro i hi
      simp only [go_sem, qA, qB, qC, qD, qE, qF, qG, qH]
      refine branch_intro (fun hc => ?_) (fun hc => ?_)
      · simp only [decide_eq_true_eq] at hc
        have hl' : i < p.bods.length := by omega
        simp only [go_sem, qA, qB, qC, qD, qE, qF, qG, qH, wrap_succ (i := i) (by omega), List.length_replicate]
        repeat refine K ?_
        have he : threads .own (List.replicate i thread0) ++ [[AV.int .i64 0, .sl .own 1 [[.int .i64 0], [.int .i64 0], [.int .i64 0], [.int .i64 0]], .int .i64 0]] = threads .own (List.replicate (i + 1) thread0) := by
          rw [rep_succ, ← threads_append]
          rfl
        refine back_intro (i + 1) ?_ hl' (by omega)
        refine Sub.trans (Sub.foldLast 16 1 14 rfl (by simp [-gD] <;> omega) rfl (by decide) (by decide) rfl) ?_
        simp only [fS, qA, qC, he]
        refine Sub.trans (Sub.fold1 12 0 16 rfl (by simp [-gD] <;> omega) rfl (by decide) (by decide) rfl) ?_
        simp only [fS, qA, qC]
        refine Sub.shape [] id (by omega) ?_ ?_ ?_ ?_ <;> simp [ints_rep]
      · simp only [decide_eq_false_iff_not] at hc
        have hie : i = p.bods.length := by omega
        subst hie
        simp only [go_sem, qA, qB, qC, qD, qE, qF, qG, qH]
        repeat refine K ?_
        refine loop_intro (ι := Nat) (fun i => .mk [(2, .ptr 11 0 0), (4, .ptr 12 0 0), (26, .sl .bw 1 (ints p.caps)), (27, .int .i64 p.caps.length), (28, .int .i64 i)] [(11, 3, [[.nil, .nil, .nil]]), (12, 3, [[.sl .own 3 (threads .own (List.replicate p.bods.length thread0)), .sl .own 3 (chans .own ((p.caps.take i).map fun c => ⟨c, [], false⟩)), .nil]])] 13) (fun i => i ≤ p.caps.length) (fun i => p.caps.length - i) 0 (by simp) ?_ ?_
        · refine Sub.shape [] id (by omega) ?_ ?_ ?_ ?_ <;> simp [ints_rep]
        · rintro i hi
          simp only [go_sem, qA, qB, qC, qD, qE, qF, qG, qH]
          refine branch_intro (fun hc => ?_) (fun hc => ?_)
          · simp only [decide_eq_true_eq] at hc
            have hl' : i < p.caps.length := by omega
            have hlt : (p.caps.take i).length = i := by simp; omega
            simp only [go_sem, qA, qB, qC, qD, qE, qF, qG, qH, wrap_succ (i := i) (by omega), ints_getD p.caps i hl', List.length_map, hlt]
            repeat refine K ?_
            have he : chans .own ((p.caps.take i).map fun c => ⟨c, [], false⟩) ++ [[AV.int .i64 (p.caps.getD i 0), .sl .own 1 [], .bool false]] = chans .own ((p.caps.take (i + 1)).map fun c => ⟨c, [], false⟩) := by
              rw [List.take_succ_eq_append_getElem hl', List.map_append, ← chans_append]
              simp [chans, List.getD_eq_getElem?_getD, hl', ints_nil]
            refine back_intro (i + 1) ?_ hl' (by omega)
            refine Sub.trans (Sub.nilLast 15 (r' := [.int .i64 (p.caps.getD i 0), .sl .own 1 [], .bool false]) rfl (by simp) (by simp [nf_app, bndr, bnds, bnd])) ?_
            simp only [put, Nat.reduceEqDiff, if_true, if_false]
            rw [he]
            refine Sub.trans (Sub.fold1 12 1 15 rfl (by simp [-gD] <;> omega) rfl (by decide) (by decide) rfl) ?_
            simp only [fS, qA, qC, List.length_map, List.length_take, Nat.min_eq_left (show i + 1 ≤ p.caps.length from hl')]
            refine Sub.shape [] id (by omega) ?_ ?_ ?_ ?_ <;> simp [ints_rep]
          · simp only [decide_eq_false_iff_not] at hc
            have hie : p.caps.take i = p.caps := List.take_of_length_le (by omega)
            simp only [go_sem, qA, qB, qC, qD, qE, qF, qG, qH, hie]
            repeat refine K ?_
            refine ⟨_, Sub.refl _, FinS_tup (by simp) ?_⟩; simp [-List.drop_one]
            simp [sourceNew, hok]

theorem specSourceNew_ok (p : Prog) (h1 : p.caps.length < 2 ^ 40) (h2 : p.bods.length < 2 ^ 40) (h3 : ∀ b ∈ p.bods, b.length < 2 ^ 47) : CallOk Try.prog num 45 [.agg (progC .bw p)] [] (.tup [.agg (sourceC .own (sourceNew p).1), .bool (sourceNew p).2]) := by
  refine enter (m := m45) (f := 45) (fn := Try.f70) Try.func70 (by kernel_rfl) rfl c45 rfl (by simp [Try.f70]) (by simp [bnds, bnd, nf_sl, nf_int, nf_bool, nf_str, ints_bnd]) (fun _ _ h => by simp [preH, look] at h) ?_
  unfold m45
  simp only [go_sem, qA, qB, qC, qD, qE, qF, qG, qH]
  repeat refine K ?_
  refine CA [] (specProgOk_ok p (by omega) (by omega) h3) ?_
  try simp only [go_sem, qA, qB, qC, qD, qE, qF, qG, qH]
  repeat refine K ?_
  cases hok : progOk p
  · simp only [go_sem, qA, qB, qC, qD, qE, qF, qG, qH, hok]
    repeat refine K ?_
    refine ⟨_, Sub.refl _, FinS_tup (by simp) ?_⟩; simp [-List.drop_one]
    simp [sourceNew, hok, threads, chans, notes]
  · simp only [go_sem, qA, qB, qC, qD, qE, qF, qG, qH, hok]
    repeat refine K ?_
    refine loop_intro (ι := Nat) (fun i => .mk [(1, .ptr 10 0 0), (2, .ptr 11 0 0), (4, .ptr 12 0 0), (5, .int .i64 i)] [(10, 2, [progC .bw p]), (11, 3, [[.nil, .nil, .nil]]), (12, 3, [[.sl .own 3 (threads .own (List.replicate i thread0)), .nil, .nil]])] 13) (fun i => i ≤ p.bods.length) (fun i => p.bods.length - i) 0 (by simp) ?_ ?_
    · refine Sub.shape [] id (by omega) ?_ ?_ ?_ ?_ <;> simp [ints_rep]
    · rintro i hi
      simp only [go_sem, qA, qB, qC, qD, qE, qF, qG, qH]
      repeat refine K ?_
      refine branch_intro (fun hc => ?_) (fun hc => ?_)
      · simp only [decide_eq_true_eq] at hc
        have hl' : i < p.bods.length := by omega
        simp only [go_sem, qA, qB, qC, qD, qE, qF, qG, qH, wrap_succ (i := i) (by omega), List.length_replicate]
        repeat refine K ?_
        have he : threads .own (List.replicate i thread0) ++ [[AV.int .i64 0, .sl .own 1 [[.int .i64 0], [.int .i64 0], [.int .i64 0], [.int .i64 0]], .int .i64 0]] = threads .own (List.replicate (i + 1) thread0) := by
          rw [rep_succ, ← threads_append]
          rfl
        refine back_intro (i + 1) ?_ hl' (by omega)
        refine Sub.trans (Sub.foldLast 16 1 14 rfl (by simp [-gD] <;> omega) rfl (by decide) (by decide) rfl) ?_
        simp only [fS, qA, qC, he]
        refine Sub.trans (Sub.fold1 12 0 16 rfl (by simp [-gD] <;> omega) rfl (by decide) (by decide) rfl) ?_
        simp only [fS, qA, qC]
        refine Sub.shape [] id (by omega) ?_ ?_ ?_ ?_ <;> simp [ints_rep]
      · simp only [decide_eq_false_iff_not] at hc
        have hie : i = p.bods.length := by omega
        subst hie
        simp only [go_sem, qA, qB, qC, qD, qE, qF, qG, qH]
        repeat refine K ?_
        refine loop_intro (ι := Nat) (fun i => .mk [(1, .ptr 10 0 0), (2, .ptr 11 0 0), (4, .ptr 12 0 0), (6, .int .i64 i)] [(10, 2, [progC .bw p]), (11, 3, [[.nil, .nil, .nil]]), (12, 3, [[.sl .own 3 (threads .own (List.replicate p.bods.length thread0)), .sl .own 3 (chans .own ((p.caps.take i).map fun c => ⟨c, [], false⟩)), .nil]])] 13) (fun i => i ≤ p.caps.length) (fun i => p.caps.length - i) 0 (by simp) ?_ ?_
        · refine Sub.shape [] id (by omega) ?_ ?_ ?_ ?_ <;> simp [ints_rep]
        · rintro i hi
          simp only [go_sem, qA, qB, qC, qD, qE, qF, qG, qH]
          repeat refine K ?_
          refine branch_intro (fun hc => ?_) (fun hc => ?_)
          · simp only [decide_eq_true_eq] at hc
            have hl' : i < p.caps.length := by omega
            have hlt : (p.caps.take i).length = i := by simp; omega
            simp only [go_sem, qA, qB, qC, qD, qE, qF, qG, qH, wrap_succ (i := i) (by omega), ints_getD p.caps i hl', List.length_map, hlt]
            repeat refine K ?_
            have he : chans .own ((p.caps.take i).map fun c => ⟨c, [], false⟩) ++ [[AV.int .i64 (p.caps.getD i 0), .sl .own 1 [], .bool false]] = chans .own ((p.caps.take (i + 1)).map fun c => ⟨c, [], false⟩) := by
              rw [List.take_succ_eq_append_getElem hl', List.map_append, ← chans_append]
              simp [chans, List.getD_eq_getElem?_getD, hl', ints_nil]
            refine back_intro (i + 1) ?_ hl' (by omega)
            refine Sub.trans (Sub.nilLast 15 (r' := [.int .i64 (p.caps.getD i 0), .sl .own 1 [], .bool false]) rfl (by simp) (by simp [nf_app, bndr, bnds, bnd])) ?_
            simp only [put, Nat.reduceEqDiff, if_true, if_false]
            rw [he]
            refine Sub.trans (Sub.fold1 12 1 15 rfl (by simp [-gD] <;> omega) rfl (by decide) (by decide) rfl) ?_
            simp only [fS, qA, qC, List.length_map, List.length_take, Nat.min_eq_left (show i + 1 ≤ p.caps.length from hl')]
            refine Sub.shape [] id (by omega) ?_ ?_ ?_ ?_ <;> simp [ints_rep]
          · simp only [decide_eq_false_iff_not] at hc
            have hie : p.caps.take i = p.caps := List.take_of_length_le (by omega)
            simp only [go_sem, qA, qB, qC, qD, qE, qF, qG, qH, hie]
            repeat refine K ?_
            refine ⟨_, Sub.refl _, FinS_tup (by simp) ?_⟩; simp [-List.drop_one]
            simp [sourceNew, hok]

/-- No row of a source is too long. -/
structure Small (s : Source) : Prop where
  ths : s.ths.length < 2 ^ 40
  chs : s.chs.length < 2 ^ 40
  tr : s.tr.length < 2 ^ 40
  regs : ∀ t ∈ s.ths, t.regs.length < 2 ^ 40
  list : ∀ c ∈ s.chs, c.list.length < 2 ^ 40

theorem threads_next (l : List Thread) (i : Nat) (h : i < l.length) : threads .own (l.take i) ++ [[AV.int .i64 (l.getD i default).at_, .sl .own 1 (ints (l.getD i default).regs), .int .i64 (l.getD i default).st]] = threads .own (l.take (i + 1)) := by
  rw [List.take_succ_eq_append_getElem h, ← threads_append]
  simp [threads, List.getD_eq_getElem?_getD, h]
theorem chans_next (l : List Chan) (i : Nat) (h : i < l.length) : chans .own (l.take i) ++ [[AV.int .i64 (l.getD i default).cap, .sl .own 1 (ints (l.getD i default).list), .bool (l.getD i default).closed]] = chans .own (l.take (i + 1)) := by
  rw [List.take_succ_eq_append_getElem h, ← chans_append]
  simp [chans, List.getD_eq_getElem?_getD, h]
theorem getD_mem {α : Type} (l : List α) (i : Nat) (d : α) (h : i < l.length) : l.getD i d ∈ l := by simp [List.getD_eq_getElem?_getD, h]

theorem copySource_ok (s : Source) (hs : Small s) : CallOk Try.prog num 49 [.agg (sourceC .bw s)] [] (.agg (sourceC .own s)) := by
  obtain ⟨hs1, hs2, hs3, hs4, hs5⟩ := hs
  refine enter (m := m49) (f := 49) (fn := Try.f98) Try.func98 (by kernel_rfl) rfl c49 rfl (by simp [Try.f98]) (by simp [bnds, bnd, nf_sl, nf_int, nf_bool, nf_str, ints_bnd]) (fun _ _ h => by simp [preH, look] at h) ?_
  unfold m49
  simp only [go_sem, qA, qB, qC, qD, qE, qF, qG, qH]
  repeat refine K ?_
  refine CA [] (copyNotes_ok s.tr (by omega)) ?_
  try simp only [go_sem, qA, qB, qC, qD, qE, qF, qG, qH]
  repeat refine K ?_
  refine loop_intro (ι := Nat) (fun i => .mk [(1, .ptr 10 0 0), (2, .ptr 11 0 0), (3, .ptr 13 0 0), (13, .sl .bw 3 (threads .bw s.ths)), (14, .int .i64 s.ths.length), (15, .int .i64 i)] [(10, 3, [sourceC .bw s]), (11, 3, [[.nil, .nil, .nil]]), (13, 3, [[.sl .own 3 (threads .own (s.ths.take i)), .nil, .sl .own 2 (notes s.tr)]])] 14) (fun i => i ≤ s.ths.length) (fun i => s.ths.length - i) 0 (by simp) ?_ ?_
  · refine Sub.trans (Sub.fold1 13 2 12 rfl (by simp [-gD] <;> omega) rfl (by decide) (by decide) rfl) ?_
    simp only [fS, qA, qC]
    refine Sub.shape [] id (by omega) ?_ ?_ ?_ ?_ <;> simp [ints_rep]
  · rintro i hi
    simp only [go_sem, qA, qB, qC, qD, qE, qF, qG, qH]
    refine branch_intro (fun hc => ?_) (fun hc => ?_)
    · simp only [decide_eq_true_eq] at hc
      have hl' : i < s.ths.length := by omega
      have hlt : (s.ths.take i).length = i := by simp; omega
      have hr := hs4 _ (getD_mem s.ths i default hl')
      simp only [go_sem, qA, qB, qC, qD, qE, qF, qG, qH, wrap_succ (i := i) (by omega), threads_getD .bw s.ths i hl', hlt]
      repeat refine K ?_
      refine DA [] (copyInts_ok (s.ths.getD i default).regs (by omega)) ?_
      try simp only [go_sem, qA, qB, qC, qD, qE, qF, qG, qH]
      repeat refine K ?_
      simp only [go_sem, qA, qB, qC, qD, qE, qF, qG, qH, wrap_succ (i := i) (by omega), hlt]
      repeat refine K ?_
      refine back_intro (i + 1) ?_ hl' (by omega)
      refine Sub.trans (Sub.foldLast 18 1 16 rfl (by simp [-gD] <;> omega) rfl (by decide) (by decide) rfl) ?_
      simp only [fS, qA, qC, threads_next s.ths i hl']
      refine Sub.trans (Sub.fold1 13 0 18 rfl (by simp [-gD] <;> omega) rfl (by decide) (by decide) rfl) ?_
      simp only [fS, qA, qC, List.length_take, Nat.min_eq_left (show i + 1 ≤ s.ths.length from hl')]
      refine Sub.shape [] id (by omega) ?_ ?_ ?_ ?_ <;> simp [ints_rep]
    · simp only [decide_eq_false_iff_not] at hc
      have hie : s.ths.take i = s.ths := List.take_of_length_le (by omega)
      simp only [go_sem, qA, qB, qC, qD, qE, qF, qG, qH, hie]
      repeat refine K ?_
      refine loop_intro (ι := Nat) (fun i => .mk [(2, .ptr 11 0 0), (3, .ptr 13 0 0), (34, .sl .bw 3 (chans .bw s.chs)), (35, .int .i64 s.chs.length), (36, .int .i64 i)] [(11, 3, [[.nil, .nil, .nil]]), (13, 3, [[.sl .own 3 (threads .own s.ths), .sl .own 3 (chans .own (s.chs.take i)), .sl .own 2 (notes s.tr)]])] 14) (fun i => i ≤ s.chs.length) (fun i => s.chs.length - i) 0 (by simp) ?_ ?_
      · refine Sub.shape [] id (by omega) ?_ ?_ ?_ ?_ <;> simp [ints_rep]
      · rintro i hi
        simp only [go_sem, qA, qB, qC, qD, qE, qF, qG, qH]
        refine branch_intro (fun hc => ?_) (fun hc => ?_)
        · simp only [decide_eq_true_eq] at hc
          have hl' : i < s.chs.length := by omega
          have hlt : (s.chs.take i).length = i := by simp; omega
          have hr := hs5 _ (getD_mem s.chs i default hl')
          simp only [go_sem, qA, qB, qC, qD, qE, qF, qG, qH, wrap_succ (i := i) (by omega), chans_getD .bw s.chs i hl', hlt]
          repeat refine K ?_
          refine DA [] (copyChan_ok (s.chs.getD i default) (by omega)) ?_
          try simp only [go_sem, qA, qB, qC, qD, qE, qF, qG, qH]
          repeat refine K ?_
          simp only [go_sem, qA, qB, qC, qD, qE, qF, qG, qH, wrap_succ (i := i) (by omega), hlt]
          repeat refine K ?_
          refine back_intro (i + 1) ?_ hl' (by omega)
          refine Sub.trans (Sub.foldLast 18 1 16 rfl (by simp [-gD] <;> omega) rfl (by decide) (by decide) rfl) ?_
          simp only [fS, qA, qC, chans_next s.chs i hl']
          refine Sub.trans (Sub.fold1 13 1 18 rfl (by simp [-gD] <;> omega) rfl (by decide) (by decide) rfl) ?_
          simp only [fS, qA, qC, List.length_take, Nat.min_eq_left (show i + 1 ≤ s.chs.length from hl')]
          refine Sub.shape [] id (by omega) ?_ ?_ ?_ ?_ <;> simp [ints_rep]
        · simp only [decide_eq_false_iff_not] at hc
          have hie : s.chs.take i = s.chs := List.take_of_length_le (by omega)
          simp only [go_sem, qA, qB, qC, qD, qE, qF, qG, qH, hie]
          repeat refine K ?_
          refine ⟨_, Sub.refl _, FinS_one ?_⟩; simp [-List.drop_one]

theorem l4Copy_ok (s : Source) (hs : Small s) : CallOk Try.prog num 65 [.agg (sourceC .bw s)] [] (.agg (sourceC .own s)) := by
  obtain ⟨hs1, hs2, hs3, hs4, hs5⟩ := hs
  refine enter (m := m65) (f := 65) (fn := Try.f149) Try.func149 (by kernel_rfl) rfl c65 rfl (by simp [Try.f149]) (by simp [bnds, bnd, nf_sl, nf_int, nf_bool, nf_str, ints_bnd]) (fun _ _ h => by simp [preH, look] at h) ?_
  unfold m65
  simp only [go_sem, qA, qB, qC, qD, qE, qF, qG, qH]
  repeat refine K ?_
  refine loop_intro (ι := Nat) (fun i => .mk [(1, .ptr 10 0 0), (2, .ptr 11 0 0), (3, .ptr 14 0 0), (4, .int .i64 i)] [(10, 3, [sourceC .bw s]), (11, 3, [[.nil, .nil, .nil]]), (14, 3, [[.sl .own 3 (threads .own (s.ths.take i)), .nil, .sl .own 2 (notes s.tr)]])] 15) (fun i => i ≤ s.ths.length) (fun i => s.ths.length - i) 0 (by simp) ?_ ?_
  · refine Sub.trans (Sub.fold1 14 2 13 rfl (by simp [-gD] <;> omega) rfl (by decide) (by decide) rfl) ?_
    simp only [fS, qA, qC]
    refine Sub.shape [] id (by omega) ?_ ?_ ?_ ?_ <;> simp [ints_rep]
  · rintro i hi
    simp only [go_sem, qA, qB, qC, qD, qE, qF, qG, qH]
    repeat refine K ?_
    refine branch_intro (fun hc => ?_) (fun hc => ?_)
    · simp only [decide_eq_true_eq] at hc
      have hl' : i < s.ths.length := by omega
      have hlt : (s.ths.take i).length = i := by simp; omega
      have hr := hs4 _ (getD_mem s.ths i default hl')
      simp only [go_sem, qA, qB, qC, qD, qE, qF, qG, qH, wrap_succ (i := i) (by omega), threads_getD .bw s.ths i hl', hlt]
      repeat refine K ?_
      refine back_intro (i + 1) ?_ hl' (by omega)
      refine Sub.trans (Sub.foldLast 20 1 17 rfl (by simp [-gD] <;> omega) rfl (by decide) (by decide) rfl) ?_
      simp only [fS, qA, qC, threads_next s.ths i hl']
      refine Sub.trans (Sub.fold1 14 0 20 rfl (by simp [-gD] <;> omega) rfl (by decide) (by decide) rfl) ?_
      simp only [fS, qA, qC, List.length_take, Nat.min_eq_left (show i + 1 ≤ s.ths.length from hl')]
      refine Sub.shape [] id (by omega) ?_ ?_ ?_ ?_ <;> simp [ints_rep]
    · simp only [decide_eq_false_iff_not] at hc
      have hie : s.ths.take i = s.ths := List.take_of_length_le (by omega)
      simp only [go_sem, qA, qB, qC, qD, qE, qF, qG, qH, hie]
      repeat refine K ?_
      refine loop_intro (ι := Nat) (fun i => .mk [(1, .ptr 10 0 0), (2, .ptr 11 0 0), (3, .ptr 14 0 0), (6, .int .i64 i)] [(10, 3, [sourceC .bw s]), (11, 3, [[.nil, .nil, .nil]]), (14, 3, [[.sl .own 3 (threads .own s.ths), .sl .own 3 (chans .own (s.chs.take i)), .sl .own 2 (notes s.tr)]])] 15) (fun i => i ≤ s.chs.length) (fun i => s.chs.length - i) 0 (by simp) ?_ ?_
      · refine Sub.shape [] id (by omega) ?_ ?_ ?_ ?_ <;> simp [ints_rep]
      · rintro i hi
        simp only [go_sem, qA, qB, qC, qD, qE, qF, qG, qH]
        repeat refine K ?_
        refine branch_intro (fun hc => ?_) (fun hc => ?_)
        · simp only [decide_eq_true_eq] at hc
          have hl' : i < s.chs.length := by omega
          have hlt : (s.chs.take i).length = i := by simp; omega
          have hr := hs5 _ (getD_mem s.chs i default hl')
          simp only [go_sem, qA, qB, qC, qD, qE, qF, qG, qH, wrap_succ (i := i) (by omega), chans_getD .bw s.chs i hl', hlt]
          repeat refine K ?_
          refine DA [] (l3Copy_ok (s.chs.getD i default) (by omega)) ?_
          try simp only [go_sem, qA, qB, qC, qD, qE, qF, qG, qH]
          repeat refine K ?_
          simp only [go_sem, qA, qB, qC, qD, qE, qF, qG, qH, wrap_succ (i := i) (by omega), hlt]
          repeat refine K ?_
          refine back_intro (i + 1) ?_ hl' (by omega)
          refine Sub.trans (Sub.foldLast 18 1 16 rfl (by simp [-gD] <;> omega) rfl (by decide) (by decide) rfl) ?_
          simp only [fS, qA, qC, chans_next s.chs i hl']
          refine Sub.trans (Sub.fold1 14 1 18 rfl (by simp [-gD] <;> omega) rfl (by decide) (by decide) rfl) ?_
          simp only [fS, qA, qC, List.length_take, Nat.min_eq_left (show i + 1 ≤ s.chs.length from hl')]
          refine Sub.shape [] id (by omega) ?_ ?_ ?_ ?_ <;> simp [ints_rep]
        · simp only [decide_eq_false_iff_not] at hc
          have hie : s.chs.take i = s.chs := List.take_of_length_le (by omega)
          simp only [go_sem, qA, qB, qC, qD, qE, qF, qG, qH, hie]
          repeat refine K ?_
          refine ⟨_, Sub.refl _, FinS_one ?_⟩; simp [-List.drop_one]

def notesOk (l : List Note) (n : Int) : Bool := l.all (fun x => within x.who 0 (n - 1)) && decide ((l.length : Int) ≤ 4000)

theorem notesOk_ok (l : List Note) (n : Int) (hl : l.length < 2 ^ 47) (h0 : 0 ≤ n) (h1 : n < 2 ^ 62) : CallOk Try.prog num 71 [.sl .bw 2 (notes l), .int .i64 n] [] (.bool (notesOk l n)) := by
  refine enter (m := m71) (f := 71) (fn := Try.f163) Try.func163 (by kernel_rfl) rfl c71 rfl (by simp [Try.f163]) (by simp [bnds, bnd, nf_sl, nf_int, nf_bool, nf_str, ints_bnd]) (fun _ _ h => by simp [preH, look] at h) ?_
  unfold m71
  have hw1 : IntKind.i64.wrap (n - 1) = n - 1 := wrap64 (by omega) (by omega)
  simp only [go_sem, qA, qB, qC, qD, qE, qF, qG, qH]
  repeat refine K ?_
  refine loop_intro (ι := Nat) (fun i => .mk [(0, .sl .bw 2 (notes l)), (1, .int .i64 n), (7, .sl .bw 2 (notes l)), (8, .int .i64 l.length), (9, .int .i64 i)] [] 10) (fun i => i ≤ l.length ∧ (l.take i).all (fun x => within x.who 0 (n - 1)) = true) (fun i => l.length - i) 0 (by simp) ?_ ?_
  · refine Sub.shape [] id (by omega) ?_ ?_ ?_ ?_ <;> simp [ints_rep]
  · rintro i ⟨hi, hp⟩
    simp only [go_sem, qA, qB, qC, qD, qE, qF, qG, qH]
    refine branch_intro (fun hc => ?_) (fun hc => ?_)
    · simp only [decide_eq_true_eq] at hc
      have hl' : i < l.length := by omega
      simp only [go_sem, qA, qB, qC, qD, qE, qF, qG, qH, notes_getD l i hl', hw1]
      repeat refine K ?_
      refine CA [] (within_ok (l.getD i default).who 0 (n - 1)) ?_
      try simp only [go_sem, qA, qB, qC, qD, qE, qF, qG, qH]
      repeat refine K ?_
      cases hw : within (l.getD i default).who 0 (n - 1)
      · simp only [go_sem, qA, qB, qC, qD, qE, qF, qG, qH, hw]
        repeat refine K ?_
        refine ⟨_, Sub.refl _, ?_⟩; simp [FinS, nilL, nilV, oneOr, -List.drop_one]
        simp only [notesOk]
        rw [all_stop (p := fun x : Note => within x.who 0 (n - 1)) hl' hw]
        rfl
      · simp only [go_sem, qA, qB, qC, qD, qE, qF, qG, qH, hw, wrap_succ (i := i) (by omega)]
        repeat refine K ?_
        refine back_intro (i + 1) (Sub.shape [] id (by omega) ?_ ?_ ?_ ?_) ?_ ?_
        any_goals (first | omega | (simp [ints_rep]; done))
        exact ⟨hl', all_step (p := fun x : Note => within x.who 0 (n - 1)) hp hl' hw⟩
    · simp only [decide_eq_false_iff_not] at hc
      simp only [go_sem, qA, qB, qC, qD, qE, qF, qG, qH]
      repeat refine K ?_
      refine ⟨_, Sub.refl _, ?_⟩; simp [FinS, nilL, nilV, oneOr, -List.drop_one]
      simp only [notesOk, all_end hp hc]
      simp

def threadOk (b : List Ins) (t : Thread) : Bool := decide ((t.regs.length : Int) = 4) && within t.st 0 2 && within t.at_ 0 (b.length - 1)
def sourceOk (p : Prog) (s : Source) : Bool :=
  progOk p && decide (s.ths.length = p.bods.length) && decide (s.chs.length = p.caps.length) && notesOk s.tr s.ths.length &&
  (List.range s.ths.length).all (fun i => threadOk (p.bods.getD i []) (s.ths.getD i default)) &&
  (List.range s.chs.length).all (fun i => chanOk (s.chs.getD i default) && decide ((s.chs.getD i default).cap = p.caps.getD i 0))

theorem range_step {P : Nat → Bool} {i : Nat} (h : (List.range i).all P = true) (hp : P i = true) : (List.range (i + 1)).all P = true := by
  rw [List.range_succ, List.all_append, h]
  simp [hp]
theorem range_stop {P : Nat → Bool} {i n : Nat} (hi : i < n) (hp : P i = false) : (List.range n).all P = false := by
  cases h : (List.range n).all P with
  | false => rfl
  | true => rw [List.all_eq_true.1 h i (List.mem_range.2 hi)] at hp; exact absurd hp (by decide)
theorem range_end {P : Nat → Bool} {i n : Nat} (h : (List.range i).all P = true) (hi : ¬ (i : Int) < n) (hle : i ≤ n) : (List.range n).all P = true := by
  have : i = n := by omega
  rw [← this]
  exact h

/-- No row of a program is too long. -/
structure SmallP (p : Prog) : Prop where
  caps : p.caps.length < 2 ^ 40
  bods : p.bods.length < 2 ^ 40
  body : ∀ b ∈ p.bods, b.length < 2 ^ 40

theorem SmallP.body' {p : Prog} (h : SmallP p) : ∀ b ∈ p.bods, b.length < 2 ^ 47 := fun b hb => Nat.lt_trans (h.body b hb) (by decide)

theorem implSourceOk_ok (p : Prog) (s : Source) (hp : SmallP p) (hs : Small s) : CallOk Try.prog num 50 [.agg (progC .bw p), .agg (sourceC .bw s)] [] (.bool (sourceOk p s)) := by
  have hb := hp.body'
  obtain ⟨hp1, hp2, hp3⟩ := hp
  obtain ⟨hs1, hs2, hs3, hs4, hs5⟩ := hs
  refine enter (m := m50) (f := 50) (fn := Try.f79) Try.func79 (by kernel_rfl) rfl c50 rfl (by simp [Try.f79]) (by simp [bnds, bnd, nf_sl, nf_int, nf_bool, nf_str, ints_bnd]) (fun _ _ h => by simp [preH, look] at h) ?_
  unfold m50
  simp only [go_sem, qA, qB, qC, qD, qE, qF, qG, qH]
  repeat refine K ?_
  refine CA [] (implProgOk_ok p (by omega) (by omega) hb) ?_
  try simp only [go_sem, qA, qB, qC, qD, qE, qF, qG, qH]
  repeat refine K ?_
  cases h : progOk p
  · simp only [go_sem, qA, qB, qC, qD, qE, qF, qG, qH, h]
    repeat refine K ?_
    refine ⟨_, Sub.refl _, ?_⟩; simp [FinS, nilL, nilV, oneOr, -List.drop_one]
    simp [sourceOk, h]
  · simp only [go_sem, qA, qB, qC, qD, qE, qF, qG, qH, h]
    repeat refine K ?_
    by_cases h1 : (s.ths.length : Int) = p.bods.length
    case neg =>
      simp only [go_sem, qA, qB, qC, qD, qE, qF, qG, qH, h1]
      repeat refine K ?_
      refine ⟨_, Sub.refl _, ?_⟩; simp [FinS, nilL, nilV, oneOr, -List.drop_one]
      have : ¬ s.ths.length = p.bods.length := by omega
      simp [sourceOk, this]
    simp only [go_sem, qA, qB, qC, qD, qE, qF, qG, qH, h1]
    repeat refine K ?_
    by_cases h2 : (s.chs.length : Int) = p.caps.length
    case neg =>
      simp only [go_sem, qA, qB, qC, qD, qE, qF, qG, qH, h2]
      repeat refine K ?_
      refine ⟨_, Sub.refl _, ?_⟩; simp [FinS, nilL, nilV, oneOr, -List.drop_one]
      have : ¬ s.chs.length = p.caps.length := by omega
      simp [sourceOk, this]
    simp only [go_sem, qA, qB, qC, qD, qE, qF, qG, qH, h2]
    repeat refine K ?_
    refine CA [] (notesOk_ok s.tr s.ths.length (by omega) (by omega) (by omega)) ?_
    try simp only [go_sem, qA, qB, qC, qD, qE, qF, qG, qH]
    repeat refine K ?_
    cases h3 : notesOk s.tr s.ths.length
    · simp only [go_sem, qA, qB, qC, qD, qE, qF, qG, qH, h3]
      repeat refine K ?_
      refine ⟨_, Sub.refl _, ?_⟩; simp [FinS, nilL, nilV, oneOr, -List.drop_one]
      simp [sourceOk, h3]
    simp only [go_sem, qA, qB, qC, qD, qE, qF, qG, qH, h3]
    repeat refine K ?_
    refine loop_intro (ι := Nat) (fun i => .mk [(2, .ptr 10 0 0), (3, .ptr 11 0 0), (40, .sl .bw 3 (threads .bw s.ths)), (41, .int .i64 s.ths.length), (42, .int .i64 i)] [(10, 2, [progC .bw p]), (11, 3, [sourceC .bw s])] 12) (fun i => i ≤ s.ths.length ∧ (List.range i).all (fun i => threadOk (p.bods.getD i []) (s.ths.getD i default)) = true) (fun i => s.ths.length - i) 0 (by simp) ?_ ?_
    · refine Sub.shape [] id (by omega) ?_ ?_ ?_ ?_ <;> simp [ints_rep]
    · rintro i ⟨hi, hpr⟩
      simp only [go_sem, qA, qB, qC, qD, qE, qF, qG, qH]
      refine branch_intro (fun hc => ?_) (fun hc => ?_)
      · simp only [decide_eq_true_eq] at hc
        have hl' : i < s.ths.length := by omega
        have hlb : i < p.bods.length := by omega
        have hbl := hp3 _ (getD_mem p.bods i [] hlb)
        have hw1 : IntKind.i64.wrap (((p.bods.getD i []).length : Int) - 1) = ((p.bods.getD i []).length : Int) - 1 := wrap64 (by omega) (by omega)
        simp only [go_sem, qA, qB, qC, qD, qE, qF, qG, qH, threads_getD .bw s.ths i hl']
        repeat refine K ?_
        by_cases h4 : ((s.ths.getD i default).regs.length : Int) = 4
        case neg =>
          simp only [go_sem, qA, qB, qC, qD, qE, qF, qG, qH, h4]
          repeat refine K ?_
          refine ⟨_, Sub.refl _, ?_⟩; simp [FinS, nilL, nilV, oneOr, -List.drop_one]
          simp only [sourceOk]
          rw [range_stop (P := fun i => threadOk (p.bods.getD i []) (s.ths.getD i default)) hl' (by simp only [threadOk, h4]; rfl)]
          simp
        simp only [go_sem, qA, qB, qC, qD, qE, qF, qG, qH, h4]
        repeat refine K ?_
        refine DA [] (within_ok (s.ths.getD i default).st 0 2) ?_
        try simp only [go_sem, qA, qB, qC, qD, qE, qF, qG, qH]
        repeat refine K ?_
        cases h5 : within (s.ths.getD i default).st 0 2
        · simp only [go_sem, qA, qB, qC, qD, qE, qF, qG, qH, h5]
          repeat refine K ?_
          refine ⟨_, Sub.refl _, ?_⟩; simp [FinS, nilL, nilV, oneOr, -List.drop_one]
          simp only [sourceOk]
          rw [range_stop (P := fun i => threadOk (p.bods.getD i []) (s.ths.getD i default)) hl' (by simp only [threadOk, h4, h5]; rfl)]
          simp
        simp only [go_sem, qA, qB, qC, qD, qE, qF, qG, qH, h5, bodies_getD .bw p.bods i hlb, hw1]
        repeat refine K ?_
        refine DA [] (within_ok (s.ths.getD i default).at_ 0 ((p.bods.getD i []).length - 1)) ?_
        try simp only [go_sem, qA, qB, qC, qD, qE, qF, qG, qH]
        repeat refine K ?_
        cases h6 : within (s.ths.getD i default).at_ 0 ((p.bods.getD i []).length - 1)
        · simp only [go_sem, qA, qB, qC, qD, qE, qF, qG, qH, h6]
          repeat refine K ?_
          refine ⟨_, Sub.refl _, ?_⟩; simp [FinS, nilL, nilV, oneOr, -List.drop_one]
          simp only [sourceOk]
          rw [range_stop (P := fun i => threadOk (p.bods.getD i []) (s.ths.getD i default)) hl' (by simp only [threadOk, h4, h5, h6]; rfl)]
          simp
        simp only [go_sem, qA, qB, qC, qD, qE, qF, qG, qH, h6, wrap_succ (i := i) (by omega)]
        repeat refine K ?_
        refine back_intro (i + 1) (Sub.shape [] id (by omega) ?_ ?_ ?_ ?_) ?_ ?_
        any_goals (first | omega | (simp [ints_rep]; done))
        exact ⟨hl', range_step hpr (by simp only [threadOk, h4, h5, h6]; rfl)⟩
      · simp only [decide_eq_false_iff_not] at hc
        have he1 := range_end hpr hc hi
        simp only [go_sem, qA, qB, qC, qD, qE, qF, qG, qH]
        repeat refine K ?_
        refine loop_intro (ι := Nat) (fun i => .mk [(2, .ptr 10 0 0), (3, .ptr 11 0 0), (72, .sl .bw 3 (chans .bw s.chs)), (73, .int .i64 s.chs.length), (74, .int .i64 i)] [(10, 2, [progC .bw p]), (11, 3, [sourceC .bw s])] 12) (fun i => i ≤ s.chs.length ∧ (List.range i).all (fun i => chanOk (s.chs.getD i default) && decide ((s.chs.getD i default).cap = p.caps.getD i 0)) = true) (fun i => s.chs.length - i) 0 (by simp) ?_ ?_
        · refine Sub.shape [] id (by omega) ?_ ?_ ?_ ?_ <;> simp [ints_rep]
        · rintro i ⟨hi, hpr⟩
          simp only [go_sem, qA, qB, qC, qD, qE, qF, qG, qH]
          refine branch_intro (fun hc => ?_) (fun hc => ?_)
          · simp only [decide_eq_true_eq] at hc
            have hl' : i < s.chs.length := by omega
            have hlb : i < p.caps.length := by omega
            simp only [go_sem, qA, qB, qC, qD, qE, qF, qG, qH, chans_getD .bw s.chs i hl']
            repeat refine K ?_
            refine DA [] (implChanOk_ok (s.chs.getD i default)) ?_
            try simp only [go_sem, qA, qB, qC, qD, qE, qF, qG, qH]
            repeat refine K ?_
            cases h5 : chanOk (s.chs.getD i default)
            · simp only [go_sem, qA, qB, qC, qD, qE, qF, qG, qH, h5]
              repeat refine K ?_
              refine ⟨_, Sub.refl _, ?_⟩; simp [FinS, nilL, nilV, oneOr, -List.drop_one]
              simp only [sourceOk]
              rw [range_stop (P := fun i => chanOk (s.chs.getD i default) && decide ((s.chs.getD i default).cap = p.caps.getD i 0)) hl' (by simp only [h5]; rfl)]
              simp
            simp only [go_sem, qA, qB, qC, qD, qE, qF, qG, qH, h5, ints_getD p.caps i hlb]
            repeat refine K ?_
            by_cases h6 : (s.chs.getD i default).cap = p.caps.getD i 0
            case neg =>
              simp only [go_sem, qA, qB, qC, qD, qE, qF, qG, qH, h6]
              repeat refine K ?_
              refine ⟨_, Sub.refl _, ?_⟩; simp [FinS, nilL, nilV, oneOr, -List.drop_one]
              simp only [sourceOk]
              rw [range_stop (P := fun i => chanOk (s.chs.getD i default) && decide ((s.chs.getD i default).cap = p.caps.getD i 0)) hl' (by simp only [h5, h6]; rfl)]
              simp
            simp only [go_sem, qA, qB, qC, qD, qE, qF, qG, qH, h6, wrap_succ (i := i) (by omega)]
            repeat refine K ?_
            refine back_intro (i + 1) (Sub.shape [] id (by omega) ?_ ?_ ?_ ?_) ?_ ?_
            any_goals (first | omega | (simp [ints_rep]; done))
            exact ⟨hl', range_step hpr (by simp only [h5, h6]; rfl)⟩
          · simp only [decide_eq_false_iff_not] at hc
            have he2 := range_end hpr hc hi
            simp only [go_sem, qA, qB, qC, qD, qE, qF, qG, qH]
            repeat refine K ?_
            refine ⟨_, Sub.refl _, ?_⟩; simp [FinS, nilL, nilV, oneOr, -List.drop_one]
            have e1 : s.ths.length = p.bods.length := by omega
            have e2 : s.chs.length = p.caps.length := by omega
            simp only [sourceOk]
            rw [he1, he2, h, h3]
            simp [e1, e2]

theorem specSourceOk_ok (p : Prog) (s : Source) (hp : SmallP p) (hs : Small s) : CallOk Try.prog num 63 [.agg (progC .bw p), .agg (sourceC .bw s)] [] (.bool (sourceOk p s)) := by
  have hb := hp.body'
  obtain ⟨hp1, hp2, hp3⟩ := hp
  obtain ⟨hs1, hs2, hs3, hs4, hs5⟩ := hs
  refine enter (m := m63) (f := 63) (fn := Try.f148) Try.func148 (by kernel_rfl) rfl c63 rfl (by simp [Try.f148]) (by simp [bnds, bnd, nf_sl, nf_int, nf_bool, nf_str, ints_bnd]) (fun _ _ h => by simp [preH, look] at h) ?_
  unfold m63
  simp only [go_sem, qA, qB, qC, qD, qE, qF, qG, qH]
  repeat refine K ?_
  refine CA [] (specProgOk_ok p (by omega) (by omega) hb) ?_
  try simp only [go_sem, qA, qB, qC, qD, qE, qF, qG, qH]
  repeat refine K ?_
  cases h : progOk p
  · simp only [go_sem, qA, qB, qC, qD, qE, qF, qG, qH, h]
    repeat refine K ?_
    refine ⟨_, Sub.refl _, ?_⟩; simp [FinS, nilL, nilV, oneOr, -List.drop_one]
    simp [sourceOk, h]
  · simp only [go_sem, qA, qB, qC, qD, qE, qF, qG, qH, h]
    repeat refine K ?_
    by_cases h1 : (s.ths.length : Int) = p.bods.length
    case neg =>
      simp only [go_sem, qA, qB, qC, qD, qE, qF, qG, qH, h1]
      repeat refine K ?_
      refine ⟨_, Sub.refl _, ?_⟩; simp [FinS, nilL, nilV, oneOr, -List.drop_one]
      have : ¬ s.ths.length = p.bods.length := by omega
      simp [sourceOk, this]
    simp only [go_sem, qA, qB, qC, qD, qE, qF, qG, qH, h1]
    repeat refine K ?_
    by_cases h2 : (s.chs.length : Int) = p.caps.length
    case neg =>
      simp only [go_sem, qA, qB, qC, qD, qE, qF, qG, qH, h2]
      repeat refine K ?_
      refine ⟨_, Sub.refl _, ?_⟩; simp [FinS, nilL, nilV, oneOr, -List.drop_one]
      have : ¬ s.chs.length = p.caps.length := by omega
      simp [sourceOk, this]
    simp only [go_sem, qA, qB, qC, qD, qE, qF, qG, qH, h2]
    repeat refine K ?_
    by_cases h3 : (4000 : Int) < s.tr.length
    · simp only [go_sem, qA, qB, qC, qD, qE, qF, qG, qH, h3]
      repeat refine K ?_
      refine ⟨_, Sub.refl _, ?_⟩; simp [FinS, nilL, nilV, oneOr, -List.drop_one]
      have : ¬ (s.tr.length : Int) ≤ 4000 := by omega
      simp [sourceOk, notesOk, this]
    simp only [go_sem, qA, qB, qC, qD, qE, qF, qG, qH, h3]
    repeat refine K ?_
    refine loop_intro (ι := Nat) (fun i => .mk [(2, .ptr 10 0 0), (3, .ptr 11 0 0), (5, .int .i64 i)] [(10, 2, [progC .bw p]), (11, 3, [sourceC .bw s])] 12) (fun i => i ≤ s.ths.length ∧ (List.range i).all (fun i => threadOk (p.bods.getD i []) (s.ths.getD i default)) = true) (fun i => s.ths.length - i) 0 (by simp) ?_ ?_
    · refine Sub.shape [] id (by omega) ?_ ?_ ?_ ?_ <;> simp [ints_rep]
    · rintro i ⟨hi, hpr⟩
      simp only [go_sem, qA, qB, qC, qD, qE, qF, qG, qH]
      repeat refine K ?_
      refine branch_intro (fun hc => ?_) (fun hc => ?_)
      · simp only [decide_eq_true_eq] at hc
        have hl' : i < s.ths.length := by omega
        have hlb : i < p.bods.length := by omega
        have hbl := hp3 _ (getD_mem p.bods i [] hlb)
        have hw1 : IntKind.i64.wrap (((p.bods.getD i []).length : Int) - 1) = ((p.bods.getD i []).length : Int) - 1 := wrap64 (by omega) (by omega)
        simp only [go_sem, qA, qB, qC, qD, qE, qF, qG, qH, threads_getD .bw s.ths i hl']
        repeat refine K ?_
        by_cases h4 : ((s.ths.getD i default).regs.length : Int) = 4
        case neg =>
          simp only [go_sem, qA, qB, qC, qD, qE, qF, qG, qH, h4]
          repeat refine K ?_
          refine ⟨_, Sub.refl _, ?_⟩; simp [FinS, nilL, nilV, oneOr, -List.drop_one]
          simp only [sourceOk]
          rw [range_stop (P := fun i => threadOk (p.bods.getD i []) (s.ths.getD i default)) hl' (by simp only [threadOk, h4]; rfl)]
          simp
        simp only [go_sem, qA, qB, qC, qD, qE, qF, qG, qH, h4]
        repeat refine K ?_
        refine DA [] (l1In_ok (s.ths.getD i default).st 0 2) ?_
        try simp only [go_sem, qA, qB, qC, qD, qE, qF, qG, qH]
        repeat refine K ?_
        cases h5 : within (s.ths.getD i default).st 0 2
        · simp only [go_sem, qA, qB, qC, qD, qE, qF, qG, qH, h5]
          repeat refine K ?_
          refine ⟨_, Sub.refl _, ?_⟩; simp [FinS, nilL, nilV, oneOr, -List.drop_one]
          simp only [sourceOk]
          rw [range_stop (P := fun i => threadOk (p.bods.getD i []) (s.ths.getD i default)) hl' (by simp only [threadOk, h4, h5]; rfl)]
          simp
        simp only [go_sem, qA, qB, qC, qD, qE, qF, qG, qH, h5, bodies_getD .bw p.bods i hlb, hw1]
        repeat refine K ?_
        refine DA [] (l1In_ok (s.ths.getD i default).at_ 0 ((p.bods.getD i []).length - 1)) ?_
        try simp only [go_sem, qA, qB, qC, qD, qE, qF, qG, qH]
        repeat refine K ?_
        cases h6 : within (s.ths.getD i default).at_ 0 ((p.bods.getD i []).length - 1)
        · simp only [go_sem, qA, qB, qC, qD, qE, qF, qG, qH, h6]
          repeat refine K ?_
          refine ⟨_, Sub.refl _, ?_⟩; simp [FinS, nilL, nilV, oneOr, -List.drop_one]
          simp only [sourceOk]
          rw [range_stop (P := fun i => threadOk (p.bods.getD i []) (s.ths.getD i default)) hl' (by simp only [threadOk, h4, h5, h6]; rfl)]
          simp
        simp only [go_sem, qA, qB, qC, qD, qE, qF, qG, qH, h6, wrap_succ (i := i) (by omega)]
        repeat refine K ?_
        refine back_intro (i + 1) (Sub.shape [] id (by omega) ?_ ?_ ?_ ?_) ?_ ?_
        any_goals (first | omega | (simp [ints_rep]; done))
        exact ⟨hl', range_step hpr (by simp only [threadOk, h4, h5, h6]; rfl)⟩
      · simp only [decide_eq_false_iff_not] at hc
        have he1 := range_end hpr hc hi
        simp only [go_sem, qA, qB, qC, qD, qE, qF, qG, qH]
        repeat refine K ?_
        refine loop_intro (ι := Nat) (fun i => .mk [(2, .ptr 10 0 0), (3, .ptr 11 0 0), (7, .int .i64 i)] [(10, 2, [progC .bw p]), (11, 3, [sourceC .bw s])] 12) (fun i => i ≤ s.chs.length ∧ (List.range i).all (fun i => chanOk (s.chs.getD i default) && decide ((s.chs.getD i default).cap = p.caps.getD i 0)) = true) (fun i => s.chs.length - i) 0 (by simp) ?_ ?_
        · refine Sub.shape [] id (by omega) ?_ ?_ ?_ ?_ <;> simp [ints_rep]
        · rintro i ⟨hi, hpr⟩
          simp only [go_sem, qA, qB, qC, qD, qE, qF, qG, qH]
          repeat refine K ?_
          refine branch_intro (fun hc => ?_) (fun hc => ?_)
          · simp only [decide_eq_true_eq] at hc
            have hl' : i < s.chs.length := by omega
            have hlb : i < p.caps.length := by omega
            simp only [go_sem, qA, qB, qC, qD, qE, qF, qG, qH, chans_getD .bw s.chs i hl']
            repeat refine K ?_
            refine DA [] (specChanOk_ok (s.chs.getD i default)) ?_
            try simp only [go_sem, qA, qB, qC, qD, qE, qF, qG, qH]
            repeat refine K ?_
            cases h5 : chanOk (s.chs.getD i default)
            · simp only [go_sem, qA, qB, qC, qD, qE, qF, qG, qH, h5]
              repeat refine K ?_
              refine ⟨_, Sub.refl _, ?_⟩; simp [FinS, nilL, nilV, oneOr, -List.drop_one]
              simp only [sourceOk]
              rw [range_stop (P := fun i => chanOk (s.chs.getD i default) && decide ((s.chs.getD i default).cap = p.caps.getD i 0)) hl' (by simp only [h5]; rfl)]
              simp
            simp only [go_sem, qA, qB, qC, qD, qE, qF, qG, qH, h5, ints_getD p.caps i hlb, chans_getD .bw s.chs i hl']
            repeat refine K ?_
            by_cases h6 : (s.chs.getD i default).cap = p.caps.getD i 0
            case neg =>
              simp only [go_sem, qA, qB, qC, qD, qE, qF, qG, qH, h6]
              repeat refine K ?_
              refine ⟨_, Sub.refl _, ?_⟩; simp [FinS, nilL, nilV, oneOr, -List.drop_one]
              simp only [sourceOk]
              rw [range_stop (P := fun i => chanOk (s.chs.getD i default) && decide ((s.chs.getD i default).cap = p.caps.getD i 0)) hl' (by simp only [h5, h6]; rfl)]
              simp
            simp only [go_sem, qA, qB, qC, qD, qE, qF, qG, qH, h6, wrap_succ (i := i) (by omega)]
            repeat refine K ?_
            refine back_intro (i + 1) (Sub.shape [] id (by omega) ?_ ?_ ?_ ?_) ?_ ?_
            any_goals (first | omega | (simp [ints_rep]; done))
            exact ⟨hl', range_step hpr (by simp only [h5, h6]; rfl)⟩
          · simp only [decide_eq_false_iff_not] at hc
            have he2 := range_end hpr hc hi
            simp only [go_sem, qA, qB, qC, qD, qE, qF, qG, qH]
            repeat refine K ?_
            refine loop_intro (ι := Nat) (fun i => .mk [(2, .ptr 10 0 0), (3, .ptr 11 0 0), (8, .int .i64 i)] [(10, 2, [progC .bw p]), (11, 3, [sourceC .bw s])] 12) (fun i => i ≤ s.tr.length ∧ (s.tr.take i).all (fun x => within x.who 0 (s.ths.length - 1)) = true) (fun i => s.tr.length - i) 0 (by simp) ?_ ?_
            · refine Sub.shape [] id (by omega) ?_ ?_ ?_ ?_ <;> simp [ints_rep]
            · rintro i ⟨hi, hpr⟩
              simp only [go_sem, qA, qB, qC, qD, qE, qF, qG, qH]
              repeat refine K ?_
              have hw1 : IntKind.i64.wrap ((s.ths.length : Int) - 1) = (s.ths.length : Int) - 1 := wrap64 (by omega) (by omega)
              refine branch_intro (fun hc => ?_) (fun hc => ?_)
              · simp only [decide_eq_true_eq] at hc
                have hl' : i < s.tr.length := by omega
                simp only [go_sem, qA, qB, qC, qD, qE, qF, qG, qH, notes_getD s.tr i hl', hw1]
                repeat refine K ?_
                refine DA [] (l1In_ok (s.tr.getD i default).who 0 (s.ths.length - 1)) ?_
                try simp only [go_sem, qA, qB, qC, qD, qE, qF, qG, qH]
                repeat refine K ?_
                cases h6 : within (s.tr.getD i default).who 0 (s.ths.length - 1)
                · simp only [go_sem, qA, qB, qC, qD, qE, qF, qG, qH, h6]
                  repeat refine K ?_
                  refine ⟨_, Sub.refl _, ?_⟩; simp [FinS, nilL, nilV, oneOr, -List.drop_one]
                  simp only [sourceOk, notesOk]
                  rw [all_stop (p := fun x : Note => within x.who 0 (s.ths.length - 1)) hl' h6]
                  simp
                simp only [go_sem, qA, qB, qC, qD, qE, qF, qG, qH, h6, wrap_succ (i := i) (by omega)]
                repeat refine K ?_
                refine back_intro (i + 1) (Sub.shape [] id (by omega) ?_ ?_ ?_ ?_) ?_ ?_
                any_goals (first | omega | (simp [ints_rep]; done))
                exact ⟨hl', all_step (p := fun x : Note => within x.who 0 (s.ths.length - 1)) hpr hl' h6⟩
              · simp only [decide_eq_false_iff_not] at hc
                have he3 := all_end hpr hc
                simp only [go_sem, qA, qB, qC, qD, qE, qF, qG, qH]
                repeat refine K ?_
                refine ⟨_, Sub.refl _, ?_⟩; simp [FinS, nilL, nilV, oneOr, -List.drop_one]
                have e1 : s.ths.length = p.bods.length := by omega
                have e2 : s.chs.length = p.caps.length := by omega
                have e3 : (s.tr.length : Int) ≤ 4000 := by omega
                simp only [sourceOk, notesOk]
                rw [he1, he2, he3, h]
                simp [e1, e2, e3]

def ins (p : Prog) (s : Source) (i : Nat) : Ins := (p.bods.getD i []).getD (s.ths.getD i default).at_.toNat default

/-- What holds of a thread of a right source. -/
structure At (p : Prog) (s : Source) (i : Nat) : Prop where
  hi : i < s.ths.length
  hb : i < p.bods.length
  regs : (s.ths.getD i default).regs.length = 4
  at0 : 0 ≤ (s.ths.getD i default).at_
  at1 : (s.ths.getD i default).at_.toNat < (p.bods.getD i []).length
  len : (p.bods.getD i []).length ≤ 24
  r0 : 0 ≤ (ins p s i).r
  r1 : (ins p s i).r.toNat < 4
  a0 : 0 ≤ (ins p s i).a
  a1 : (ins p s i).a.toNat < 4
  b0 : 0 ≤ (ins p s i).b
  b1 : (ins p s i).b.toNat < 4
  ch : 5 ≤ (ins p s i).op → (ins p s i).op ≤ 9 → 0 ≤ (ins p s i).n ∧ (ins p s i).n.toNat < s.chs.length
  jm : (ins p s i).op = 11 ∨ (ins p s i).op = 12 → 0 ≤ (ins p s i).n ∧ (ins p s i).n.toNat < (p.bods.getD i []).length
  op : 1 ≤ (ins p s i).op ∧ (ins p s i).op ≤ 13

theorem insOk_ch {x : Ins} {pl ch : Int} (h : insOk x pl ch = true) (h5 : 5 ≤ x.op) (h9 : x.op ≤ 9) : 0 ≤ x.n ∧ x.n < ch := by
  rw [← insOkF_eq] at h
  simp only [insOkF, Bool.and_eq_true] at h
  have h2 := h.2
  rw [if_neg (by omega), if_neg (by omega)] at h2
  split at h2
  · simp at h2
  · simp only [Bool.or_eq_true, Bool.not_eq_true', within_iff] at h2
    rcases h2 with h2 | h2
    · rw [within_eq] at h2
      simp at h2
      omega
    · omega
theorem insOk_jm {x : Ins} {pl ch : Int} (h : insOk x pl ch = true) (h5 : x.op = 11 ∨ x.op = 12) : 0 ≤ x.n ∧ x.n < pl := by
  rw [← insOkF_eq] at h
  simp only [insOkF, Bool.and_eq_true] at h
  have h2 := h.2
  rw [if_neg (by omega), if_pos h5, within_iff] at h2
  omega
theorem insOk_op {x : Ins} {pl ch : Int} (h : insOk x pl ch = true) : within x.op 1 13 = true ∧ within x.r 0 3 = true ∧ within x.a 0 3 = true ∧ within x.b 0 3 = true := by
  rw [← insOkF_eq] at h
  simp only [insOkF, Bool.and_eq_true] at h
  exact ⟨h.1.1.1.1.1.2, h.1.1.1.2, h.1.1.2, h.1.2⟩

theorem at_of {p : Prog} {s : Source} (h : sourceOk p s = true) {i : Nat} (hi : i < s.ths.length) : At p s i := by
  simp only [sourceOk, Bool.and_eq_true, decide_eq_true_eq] at h
  obtain ⟨⟨⟨⟨⟨h1, h2⟩, h3⟩, _⟩, h5⟩, _⟩ := h
  have ht := List.all_eq_true.1 h5 i (List.mem_range.2 hi)
  simp only [threadOk, Bool.and_eq_true, decide_eq_true_eq, within_iff] at ht
  have hb : i < p.bods.length := by omega
  simp only [progOk, Bool.and_eq_true] at h1
  have hbody := List.all_eq_true.1 h1.1.1.1 _ (getD_mem p.bods i [] hb)
  simp only [bodyOk, Bool.and_eq_true, within_iff] at hbody
  have hat : (s.ths.getD i default).at_.toNat < (p.bods.getD i []).length := by omega
  have hx : insOk (ins p s i) _ _ = true := List.all_eq_true.1 hbody.1.2 _ (getD_mem (p.bods.getD i []) _ default hat)
  obtain ⟨o1, o2, o3, o4⟩ := insOk_op hx
  rw [within_iff] at o1 o2 o3 o4
  exact {
    hi := hi, hb := hb, regs := by omega, at0 := by omega, at1 := hat, len := by omega
    r0 := by omega, r1 := by omega, a0 := by omega, a1 := by omega, b0 := by omega, b1 := by omega
    ch := fun a b => by have := insOk_ch hx a b; omega
    jm := fun a => by have := insOk_jm hx a; omega
    op := by omega }

def sourceCode (p : Prog) (s : Source) (who : Int) : Int :=
  if within who 0 (s.ths.length - 1) = false then 2
  else if ¬ (s.ths.getD who.toNat default).st = 0 ∨ ((ins p s who.toNat).op = 10 ∧ (s.tr.length : Int) = 4000) then 3
  else if ¬ (ins p s who.toNat).op = 5 ∧ ¬ (ins p s who.toNat).op = 6 then 0
  else if (s.chs.getD (ins p s who.toNat).n.toNat default).closed = false ∧ (((ins p s who.toNat).op = 5 ∧ ((s.chs.getD (ins p s who.toNat).n.toNat default).list.length : Int) = (s.chs.getD (ins p s who.toNat).n.toNat default).cap) ∨ ((ins p s who.toNat).op = 6 ∧ ((s.chs.getD (ins p s who.toNat).n.toNat default).list.length : Int) = 0)) then 4
  else 0

set_option maxHeartbeats 4000000 in
theorem sourceCode_ok (p : Prog) (s : Source) (who : Int) (hp : SmallP p) (hs : Small s) (h : sourceOk p s = true) : CallOk Try.prog num 41 [.agg (progC .bw p), .fptr .bw (sourceC .bw s) 0, .int .i64 who] [] (.int .i64 (sourceCode p s who)) := by
  obtain ⟨hs1, hs2, hs3, hs4, hs5⟩ := hs
  refine enter (m := m41) (f := 41) (fn := Try.f180) Try.func180 (by kernel_rfl) rfl c41 rfl (by simp [Try.f180]) (by simp [bnds, bnd, nf_sl, nf_int, nf_bool, nf_str, ints_bnd]) (fun _ _ h => by simp [preH, look] at h) ?_
  unfold m41
  have hw1 : IntKind.i64.wrap ((s.ths.length : Int) - 1) = (s.ths.length : Int) - 1 := wrap64 (by omega) (by omega)
  simp only [go_sem, qA, qB, qC, qD, qE, qF, qG, qH, hw1]
  repeat refine K ?_
  refine CA [] (within_ok who 0 (s.ths.length - 1)) ?_
  try simp only [go_sem, qA, qB, qC, qD, qE, qF, qG, qH]
  repeat refine K ?_
  cases hw : within who 0 (s.ths.length - 1)
  · simp only [go_sem, qA, qB, qC, qD, qE, qF, qG, qH, hw]
    repeat refine K ?_
    refine ⟨_, Sub.refl _, ?_⟩; simp [FinS, nilL, nilV, oneOr, -List.drop_one]
    simp [sourceCode, hw]
  have hw' := hw
  rw [within_iff] at hw'
  obtain ⟨i, rfl⟩ := Int.eq_ofNat_of_zero_le hw'.1
  have ha := at_of h (i := i) (by omega)
  have e1 := ha.at0
  have e2 := ha.at1
  have e3 := ha.hb
  have hch := ha.ch
  have hx : (p.bods.getD i []).getD (s.ths.getD i default).at_.toNat default = ins p s i := rfl
  simp only [go_sem, qA, qB, qC, qD, qE, qF, qG, qH, hw, Int.toNat_natCast, threads_getD .bw s.ths i ha.hi, bodies_getD .bw p.bods i ha.hb, inss_getD (p.bods.getD i []) (s.ths.getD i default).at_.toNat ha.at1, hx]
  repeat refine K ?_
  by_cases h5 : (ins p s i).op = 5 ∨ (ins p s i).op = 6
  · obtain ⟨n0, n1⟩ := hch (by omega) (by omega)
    rcases h5 with h5 | h5
    · simp only [go_sem, qA, qB, qC, qD, qE, qF, qG, qH, h5]
      repeat refine K ?_
      repeat' (first
        | (simp only [go_sem, qA, qB, qC, qD, qE, qF, qG, qH, h5, chans_getD .bw s.chs (ins p s i).n.toNat n1])
        | (refine branch_intro (fun hc => ?_) (fun hc => ?_) <;> ((try simp only [Bool.not_eq_true', Bool.not_eq_false', ne_eq, Bool.not_eq_true, Bool.not_eq_false] at hc) <;> (try simp only [hc])))
        | (refine maybe_intro (fun hc => ?_) (fun hc => ?_) <;> ((try simp only [Bool.not_eq_true', Bool.not_eq_false', ne_eq, Bool.not_eq_true, Bool.not_eq_false] at hc) <;> (try simp only [hc])))
        | (refine dmaybe_intro (fun hc => ?_) (fun hc => ?_) <;> ((try simp only [Bool.not_eq_true', Bool.not_eq_false', ne_eq, Bool.not_eq_true, Bool.not_eq_false] at hc) <;> (try simp only [hc])))
        | (refine ⟨by first | omega | (simp; done), ?_⟩)
        | fail)
      all_goals (refine ⟨_, Sub.refl _, ?_⟩; simp [FinS, nilL, nilV, oneOr, -List.drop_one])
      all_goals (try (simp_all [sourceCode]; done))
    · simp only [go_sem, qA, qB, qC, qD, qE, qF, qG, qH, h5]
      repeat refine K ?_
      repeat' (first
        | (simp only [go_sem, qA, qB, qC, qD, qE, qF, qG, qH, h5, chans_getD .bw s.chs (ins p s i).n.toNat n1])
        | (refine branch_intro (fun hc => ?_) (fun hc => ?_) <;> ((try simp only [Bool.not_eq_true', Bool.not_eq_false', ne_eq, Bool.not_eq_true, Bool.not_eq_false] at hc) <;> (try simp only [hc])))
        | (refine maybe_intro (fun hc => ?_) (fun hc => ?_) <;> ((try simp only [Bool.not_eq_true', Bool.not_eq_false', ne_eq, Bool.not_eq_true, Bool.not_eq_false] at hc) <;> (try simp only [hc])))
        | (refine dmaybe_intro (fun hc => ?_) (fun hc => ?_) <;> ((try simp only [Bool.not_eq_true', Bool.not_eq_false', ne_eq, Bool.not_eq_true, Bool.not_eq_false] at hc) <;> (try simp only [hc])))
        | (refine ⟨by first | omega | (simp; done), ?_⟩)
        | fail)
      all_goals (refine ⟨_, Sub.refl _, ?_⟩; simp [FinS, nilL, nilV, oneOr, -List.drop_one])
      all_goals (try (simp_all [sourceCode]; done))
  · have h51 : ¬ (ins p s i).op = 5 := fun h => h5 (.inl h)
    have h61 : ¬ (ins p s i).op = 6 := fun h => h5 (.inr h)
    repeat' (first
      | (simp only [go_sem, qA, qB, qC, qD, qE, qF, qG, qH, h51, h61])
      | (refine branch_intro (fun hc => ?_) (fun hc => ?_) <;> ((try simp only [Bool.not_eq_true', Bool.not_eq_false', ne_eq, Bool.not_eq_true, Bool.not_eq_false] at hc) <;> (try simp only [hc])))
      | (refine maybe_intro (fun hc => ?_) (fun hc => ?_) <;> ((try simp only [Bool.not_eq_true', Bool.not_eq_false', ne_eq, Bool.not_eq_true, Bool.not_eq_false] at hc) <;> (try simp only [hc])))
      | (refine dmaybe_intro (fun hc => ?_) (fun hc => ?_) <;> ((try simp only [Bool.not_eq_true', Bool.not_eq_false', ne_eq, Bool.not_eq_true, Bool.not_eq_false] at hc) <;> (try simp only [hc])))
      | (refine ⟨by first | omega | (simp; done), ?_⟩)
      | fail)
    all_goals (refine ⟨_, Sub.refl _, ?_⟩; simp [FinS, nilL, nilV, oneOr, -List.drop_one])
    all_goals (try (simp_all [sourceCode]; done))


end Go.Sep
