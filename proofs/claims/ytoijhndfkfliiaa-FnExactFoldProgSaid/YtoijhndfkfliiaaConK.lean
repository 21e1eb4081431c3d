/- Contracts of functions. -/
import Derived.Test.YtoijhndfkfliiaaConj
namespace Go.Sep
open Go.Proofs
set_option linter.unusedSimpArgs false
set_option linter.unusedVariables false
set_option maxRecDepth 100000
def m115 : MFn := ⟨11, [.cell 2 2 true], .seq (xr [xo 1 (.box (.t 0)), xo 2 (.alloc [xz, xz])]) (.seq (xr [xo 3 (.alloc [xz, xz])]) (.seq (xr [xo 4 (.fad 0 (.t 1)), xo 5 (.load 1 false (.t 4)), xo 6 (.fad 0 (.t 3)), ⟨none, .store 1 (.t 6) (.t 5), none⟩]) (.seq (xr [xo 7 (.fad 1 (.t 1)), xo 8 (.load 1 false (.t 7)), xo 9 (.fad 1 (.t 3)), ⟨none, .store 1 (.t 9) (.t 8), none⟩]) (.seq (xr [xo 10 (.load 2 true (.t 3)), ⟨none, .store 2 (.t 2) (.t 10), none⟩]) (.ret)))))⟩
theorem c115 : chkC Try.prog num Try.f219.ntmps m115.body ((Try.f219.body).getD .skip) = true := by kernel_rfl
def m116 : MFn := ⟨23, [.t 2], .seq (xr [xo 2 (.mv (.c (.nil)))]) (.seq (xr [xv 5 0, xo 6 (.len (.t 5)), xo 7 (.mkS [xz, xz] 16 (.t 6) (.t 6)), xv 3 7]) (.seq (.seq (xr [xo 4 (.mv (xi 0))]) (.blk 0 (.loop (.seq (.seq (xr [xv 8 4, xv 9 0, xo 10 (.len (.t 9)), xo 11 (.bin .lss (.t 8) (.t 10))]) (.cond 11 (.skip) (.exit 0))) (.seq (.blk 1 (xr [xv 14 3, xv 15 4, xv 16 0, xv 17 4, xo 18 (.iad 2 (.t 16) (.t 17)), xo 19 (.load 2 true (.t 18)), xo 20 (.call 115 [false] [.t 19]), xo 21 (.iad 2 (.t 14) (.t 15)), ⟨none, .store 2 (.t 21) (.t 20), none⟩])) (xr [xv 12 4, xo 13 (.bin .add (.t 12) (xi 1)), xv 4 13])))))) (.seq (xr [xv 22 3, xv 2 22]) (.ret))))⟩
theorem c116 : chkC Try.prog num Try.f136.ntmps m116.body ((Try.f136.body).getD .skip) = true := by kernel_rfl
def m117 : MFn := ⟨12, [.t 4], .seq (xr [xo 4 (.mv (xi 0))]) (.seq (xr [xv 5 1, xv 6 0, xo 7 (.len (.t 6)), xo 8 (.bin .sub (.t 5) (.t 7)), xv 1 8]) (.seq (.seq (xr [xv 9 1, xo 10 (.bin .lss (.t 9) (xi 0))]) (.cond 10 (.seq (xr [xo 4 (.mv (.c (.int .i64 (-1))))]) (.ret)) (.skip))) (.seq (xr [xv 11 1, xv 4 11]) (.ret))))⟩
theorem c117 : chkC Try.prog num Try.f127.ntmps m117.body ((Try.f127.body).getD .skip) = true := by kernel_rfl
def m118 : MFn := ⟨15, [.t 4], .seq (xr [xo 2 (.box (.t 0)), xo 3 (.box (.t 1)), xo 4 (.mv (.c (.bool false)))]) (.seq (.seq (xr [xo 5 (.fad 0 (.t 2)), xo 6 (.load 1 false (.t 5)), xo 7 (.fad 0 (.t 3)), xo 8 (.load 1 false (.t 7)), xo 9 (.bin .neq (.t 6) (.t 8))]) (.cond 9 (.seq (xr [xo 4 (.mv (.c (.bool false)))]) (.ret)) (.skip))) (.seq (.seq (xr [xo 10 (.fad 1 (.t 2)), xo 11 (.load 1 false (.t 10)), xo 12 (.fad 1 (.t 3)), xo 13 (.load 1 false (.t 12)), xo 14 (.bin .neq (.t 11) (.t 13))]) (.cond 14 (.seq (xr [xo 4 (.mv (.c (.bool false)))]) (.ret)) (.skip))) (.seq (xr [xo 4 (.mv (.c (.bool true)))]) (.ret))))⟩
theorem c118 : chkC Try.prog num Try.f169.ntmps m118.body ((Try.f169.body).getD .skip) = true := by kernel_rfl
def m119 : MFn := ⟨27, [.t 4], .seq (xr [xo 4 (.mv (.c (.bool false)))]) (.seq (.seq (xr [xv 6 0, xo 7 (.len (.t 6)), xv 8 1, xo 9 (.len (.t 8)), xo 10 (.bin .neq (.t 7) (.t 9))]) (.cond 10 (.seq (xr [xo 4 (.mv (.c (.bool false)))]) (.ret)) (.skip))) (.seq (.seq (xr [xo 5 (.mv (xi 0))]) (.blk 0 (.loop (.seq (.seq (xr [xv 11 5, xv 12 0, xo 13 (.len (.t 12)), xo 14 (.bin .lss (.t 11) (.t 13))]) (.cond 14 (.skip) (.exit 0))) (.seq (.blk 1 (.seq (.dreg (.take 0 (xv 17 0) (.take 1 (xv 18 5) (.take 2 (xo 19 (.iad 2 (.t 17) (.t 18))) (.take 3 (xo 20 (.load 2 true (.t 19))) (.take 4 (xv 21 1) (.only 5 [] (xv 22 5) (.only 6 [4] (xo 23 (.iad 2 (.t 21) (.t 22))) (.only 7 [] (xo 24 (.load 2 true (.t 23))) (.only 8 [3] (xo 25 (.call 118 [false, false] [.t 20, .t 24])) (.only 9 [] (xo 26 (.un .«not» (.t 25))) (.done)))))))))))) (.cond 26 (.seq (xr [xo 4 (.mv (.c (.bool false)))]) (.ret)) (.skip)))) (xr [xv 15 5, xo 16 (.bin .add (.t 15) (xi 1)), xv 5 16])))))) (.seq (xr [xo 4 (.mv (.c (.bool true)))]) (.ret))))⟩
theorem c119 : chkC Try.prog num Try.f84.ntmps m119.body ((Try.f84.body).getD .skip) = true := by kernel_rfl
def m120 : MFn := ⟨27, [.t 4], .seq (xr [xo 4 (.mv (xi 0))]) (.seq (.seq (xr [xo 5 (.mv (xi 0))]) (.blk 0 (.loop (.seq (.seq (xr [xv 6 5, xv 7 0, xo 8 (.len (.t 7)), xo 9 (.bin .lss (.t 6) (.t 8))]) (.cond 9 (.skip) (.exit 0))) (.seq (.blk 1 (.seq (xr [xv 12 0, xv 13 5, xv 14 1, xo 15 (.iad 2 (.t 12) (.t 13)), xo 16 (.fad 0 (.t 15)), ⟨none, .store 1 (.t 16) (.t 14), none⟩]) (.seq (xr [xv 17 1, xo 18 (.bin .add (.t 17) (xi 1)), xv 1 18]) (.seq (xr [xv 19 0, xv 20 5, xv 21 1, xo 22 (.iad 2 (.t 19) (.t 20)), xo 23 (.fad 1 (.t 22)), ⟨none, .store 1 (.t 23) (.t 21), none⟩]) (xr [xv 24 1, xo 25 (.bin .add (.t 24) (xi 1)), xv 1 25]))))) (xr [xv 10 5, xo 11 (.bin .add (.t 10) (xi 1)), xv 5 11])))))) (.seq (xr [xv 26 1, xv 4 26]) (.ret)))⟩
theorem c120 : chkC Try.prog num Try.f89.ntmps m120.body ((Try.f89.body).getD .skip) = true := by kernel_rfl
def m121 : MFn := ⟨31, [.t 4], .seq (xr [xo 4 (.mv (xi 0))]) (.seq (.seq (xr [xo 5 (.mv (xi 0))]) (.blk 0 (.loop (.seq (.seq (xr [xv 6 5, xv 7 0, xo 8 (.len (.t 7)), xo 9 (.bin .lss (.t 6) (.t 8))]) (.cond 9 (.skip) (.exit 0))) (.seq (.blk 1 (.seq (.seq (xr [xv 12 0, xv 13 5, xo 14 (.iad 2 (.t 12) (.t 13)), xo 15 (.fad 0 (.t 14)), xo 16 (.load 1 false (.t 15)), xv 17 1, xo 18 (.bin .neq (.t 16) (.t 17))]) (.cond 18 (.seq (xr [xo 4 (.mv (.c (.int .i64 (-1))))]) (.ret)) (.skip))) (.seq (xr [xv 19 1, xo 20 (.bin .add (.t 19) (xi 1)), xv 1 20]) (.seq (.seq (xr [xv 21 0, xv 22 5, xo 23 (.iad 2 (.t 21) (.t 22)), xo 24 (.fad 1 (.t 23)), xo 25 (.load 1 false (.t 24)), xv 26 1, xo 27 (.bin .neq (.t 25) (.t 26))]) (.cond 27 (.seq (xr [xo 4 (.mv (.c (.int .i64 (-1))))]) (.ret)) (.skip))) (xr [xv 28 1, xo 29 (.bin .add (.t 28) (xi 1)), xv 1 29]))))) (xr [xv 10 5, xo 11 (.bin .add (.t 10) (xi 1)), xv 5 11])))))) (.seq (xr [xv 30 1, xv 4 30]) (.ret)))⟩
theorem c121 : chkC Try.prog num Try.f92.ntmps m121.body ((Try.f92.body).getD .skip) = true := by kernel_rfl
def m122 : MFn := ⟨15, [.cell 2 3 true], .seq (xr [xo 1 (.box (.t 0)), xo 2 (.alloc [.int .i64 0, .nil, .int .i64 0])]) (.seq (xr [xo 3 (.alloc [.int .i64 0, .nil, .int .i64 0])]) (.seq (xr [xo 4 (.fad 0 (.t 1)), xo 5 (.load 1 false (.t 4)), xo 6 (.fad 0 (.t 3)), ⟨none, .store 1 (.t 6) (.t 5), none⟩]) (.seq (xr [xo 7 (.fad 1 (.t 1)), xo 8 (.load 1 false (.t 7)), xo 9 (.call 5 [false] [.t 8]), xo 10 (.fad 1 (.t 3)), ⟨none, .store 1 (.t 10) (.t 9), none⟩]) (.seq (xr [xo 11 (.fad 2 (.t 1)), xo 12 (.load 1 false (.t 11)), xo 13 (.fad 2 (.t 3)), ⟨none, .store 1 (.t 13) (.t 12), none⟩]) (.seq (xr [xo 14 (.load 3 true (.t 3)), ⟨none, .store 3 (.t 2) (.t 14), none⟩]) (.ret))))))⟩
theorem c122 : chkC Try.prog num Try.f220.ntmps m122.body ((Try.f220.body).getD .skip) = true := by kernel_rfl
def m123 : MFn := ⟨23, [.t 2], .seq (xr [xo 2 (.mv (.c (.nil)))]) (.seq (xr [xv 5 0, xo 6 (.len (.t 5)), xo 7 (.mkS [.int .i64 0, .nil, .int .i64 0] 40 (.t 6) (.t 6)), xv 3 7]) (.seq (.seq (xr [xo 4 (.mv (xi 0))]) (.blk 0 (.loop (.seq (.seq (xr [xv 8 4, xv 9 0, xo 10 (.len (.t 9)), xo 11 (.bin .lss (.t 8) (.t 10))]) (.cond 11 (.skip) (.exit 0))) (.seq (.blk 1 (xr [xv 14 3, xv 15 4, xv 16 0, xv 17 4, xo 18 (.iad 3 (.t 16) (.t 17)), xo 19 (.load 3 true (.t 18)), xo 20 (.call 122 [false] [.t 19]), xo 21 (.iad 3 (.t 14) (.t 15)), ⟨none, .store 3 (.t 21) (.t 20), none⟩])) (xr [xv 12 4, xo 13 (.bin .add (.t 12) (xi 1)), xv 4 13])))))) (.seq (xr [xv 22 3, xv 2 22]) (.ret))))⟩
theorem c123 : chkC Try.prog num Try.f137.ntmps m123.body ((Try.f137.body).getD .skip) = true := by kernel_rfl
def m124 : MFn := ⟨12, [.t 4], .seq (xr [xo 2 (.box (.t 0)), xo 4 (.mv (xi 0))]) (.seq (xr [xo 5 (.fad 1 (.t 2)), xo 6 (.load 1 false (.t 5)), xv 7 1, xo 8 (.call 35 [false, false] [.t 6, .t 7]), xv 1 8]) (.seq (.seq (xr [xv 9 1, xo 10 (.bin .lss (.t 9) (xi 0))]) (.cond 10 (.seq (xr [xo 4 (.mv (.c (.int .i64 (-1))))]) (.ret)) (.skip))) (.seq (xr [xv 11 1, xv 4 11]) (.ret))))⟩
theorem c124 : chkC Try.prog num Try.f214.ntmps m124.body ((Try.f214.body).getD .skip) = true := by kernel_rfl
def m125 : MFn := ⟨27, [.t 4], .seq (xr [xo 4 (.mv (xi 0))]) (.seq (xr [xv 6 1, xv 7 0, xo 8 (.len (.t 7)), xo 9 (.bin .sub (.t 6) (.t 8)), xv 1 9]) (.seq (.seq (xr [xv 10 1, xo 11 (.bin .lss (.t 10) (xi 0))]) (.cond 11 (.seq (xr [xo 4 (.mv (.c (.int .i64 (-1))))]) (.ret)) (.skip))) (.seq (.seq (xr [xo 5 (.mv (xi 0))]) (.blk 0 (.loop (.seq (.seq (xr [xv 12 5, xv 13 0, xo 14 (.len (.t 13)), xo 15 (.bin .lss (.t 12) (.t 14))]) (.cond 15 (.skip) (.exit 0))) (.seq (.blk 1 (.seq (xr [xv 18 0, xv 19 5, xo 20 (.iad 3 (.t 18) (.t 19)), xo 21 (.load 3 true (.t 20)), xv 22 1, xo 23 (.call 124 [false, false] [.t 21, .t 22]), xv 1 23]) (.seq (xr [xv 24 1, xo 25 (.bin .lss (.t 24) (xi 0))]) (.cond 25 (.seq (xr [xo 4 (.mv (.c (.int .i64 (-1))))]) (.ret)) (.skip))))) (xr [xv 16 5, xo 17 (.bin .add (.t 16) (xi 1)), xv 5 17])))))) (.seq (xr [xv 26 1, xv 4 26]) (.ret)))))⟩
theorem c125 : chkC Try.prog num Try.f128.ntmps m125.body ((Try.f128.body).getD .skip) = true := by kernel_rfl
def m126 : MFn := ⟨21, [.t 4], .seq (xr [xo 2 (.box (.t 0)), xo 3 (.box (.t 1)), xo 4 (.mv (.c (.bool false)))]) (.seq (.seq (xr [xo 5 (.fad 0 (.t 2)), xo 6 (.load 1 false (.t 5)), xo 7 (.fad 0 (.t 3)), xo 8 (.load 1 false (.t 7)), xo 9 (.bin .neq (.t 6) (.t 8))]) (.cond 9 (.seq (xr [xo 4 (.mv (.c (.bool false)))]) (.ret)) (.skip))) (.seq (.seq (xr [xo 10 (.fad 1 (.t 2)), xo 11 (.load 1 false (.t 10)), xo 12 (.fad 1 (.t 3)), xo 13 (.load 1 false (.t 12)), xo 14 (.call 8 [false, false] [.t 11, .t 13]), xo 15 (.un .«not» (.t 14))]) (.cond 15 (.seq (xr [xo 4 (.mv (.c (.bool false)))]) (.ret)) (.skip))) (.seq (.seq (xr [xo 16 (.fad 2 (.t 2)), xo 17 (.load 1 false (.t 16)), xo 18 (.fad 2 (.t 3)), xo 19 (.load 1 false (.t 18)), xo 20 (.bin .neq (.t 17) (.t 19))]) (.cond 20 (.seq (xr [xo 4 (.mv (.c (.bool false)))]) (.ret)) (.skip))) (.seq (xr [xo 4 (.mv (.c (.bool true)))]) (.ret)))))⟩
theorem c126 : chkC Try.prog num Try.f167.ntmps m126.body ((Try.f167.body).getD .skip) = true := by kernel_rfl
def m127 : MFn := ⟨27, [.t 4], .seq (xr [xo 4 (.mv (.c (.bool false)))]) (.seq (.seq (xr [xv 6 0, xo 7 (.len (.t 6)), xv 8 1, xo 9 (.len (.t 8)), xo 10 (.bin .neq (.t 7) (.t 9))]) (.cond 10 (.seq (xr [xo 4 (.mv (.c (.bool false)))]) (.ret)) (.skip))) (.seq (.seq (xr [xo 5 (.mv (xi 0))]) (.blk 0 (.loop (.seq (.seq (xr [xv 11 5, xv 12 0, xo 13 (.len (.t 12)), xo 14 (.bin .lss (.t 11) (.t 13))]) (.cond 14 (.skip) (.exit 0))) (.seq (.blk 1 (.seq (.dreg (.take 0 (xv 17 0) (.take 1 (xv 18 5) (.take 2 (xo 19 (.iad 3 (.t 17) (.t 18))) (.take 3 (xo 20 (.load 3 true (.t 19))) (.take 4 (xv 21 1) (.only 5 [] (xv 22 5) (.only 6 [4] (xo 23 (.iad 3 (.t 21) (.t 22))) (.only 7 [] (xo 24 (.load 3 true (.t 23))) (.only 8 [3] (xo 25 (.call 126 [false, false] [.t 20, .t 24])) (.only 9 [] (xo 26 (.un .«not» (.t 25))) (.done)))))))))))) (.cond 26 (.seq (xr [xo 4 (.mv (.c (.bool false)))]) (.ret)) (.skip)))) (xr [xv 15 5, xo 16 (.bin .add (.t 15) (xi 1)), xv 5 16])))))) (.seq (xr [xo 4 (.mv (.c (.bool true)))]) (.ret))))⟩
theorem c127 : chkC Try.prog num Try.f82.ntmps m127.body ((Try.f82.body).getD .skip) = true := by kernel_rfl
def m128 : MFn := ⟨34, [.t 4], .seq (xr [xo 4 (.mv (xi 0))]) (.seq (.seq (xr [xo 5 (.mv (xi 0))]) (.blk 0 (.loop (.seq (.seq (xr [xv 6 5, xv 7 0, xo 8 (.len (.t 7)), xo 9 (.bin .lss (.t 6) (.t 8))]) (.cond 9 (.skip) (.exit 0))) (.seq (.blk 1 (.seq (xr [xv 12 0, xv 13 5, xv 14 1, xo 15 (.iad 3 (.t 12) (.t 13)), xo 16 (.fad 0 (.t 15)), ⟨none, .store 1 (.t 16) (.t 14), none⟩]) (.seq (xr [xv 17 1, xo 18 (.bin .add (.t 17) (xi 1)), xv 1 18]) (.seq (xr [xv 19 0, xv 20 5, xo 21 (.iad 3 (.t 19) (.t 20)), xo 22 (.fad 1 (.t 21)), xo 23 (.load 1 false (.t 22)), xv 24 1, xo 25 (.call 16 [true, false] [.t 23, .t 24]), xv 1 25]) (.seq (xr [xv 26 0, xv 27 5, xv 28 1, xo 29 (.iad 3 (.t 26) (.t 27)), xo 30 (.fad 2 (.t 29)), ⟨none, .store 1 (.t 30) (.t 28), none⟩]) (xr [xv 31 1, xo 32 (.bin .add (.t 31) (xi 1)), xv 1 32])))))) (xr [xv 10 5, xo 11 (.bin .add (.t 10) (xi 1)), xv 5 11])))))) (.seq (xr [xv 33 1, xv 4 33]) (.ret)))⟩
theorem c128 : chkC Try.prog num Try.f87.ntmps m128.body ((Try.f87.body).getD .skip) = true := by kernel_rfl
def m129 : MFn := ⟨40, [.t 4], .seq (xr [xo 4 (.mv (xi 0))]) (.seq (.seq (xr [xo 5 (.mv (xi 0))]) (.blk 0 (.loop (.seq (.seq (xr [xv 6 5, xv 7 0, xo 8 (.len (.t 7)), xo 9 (.bin .lss (.t 6) (.t 8))]) (.cond 9 (.skip) (.exit 0))) (.seq (.blk 1 (.seq (.seq (xr [xv 12 0, xv 13 5, xo 14 (.iad 3 (.t 12) (.t 13)), xo 15 (.fad 0 (.t 14)), xo 16 (.load 1 false (.t 15)), xv 17 1, xo 18 (.bin .neq (.t 16) (.t 17))]) (.cond 18 (.seq (xr [xo 4 (.mv (.c (.int .i64 (-1))))]) (.ret)) (.skip))) (.seq (xr [xv 19 1, xo 20 (.bin .add (.t 19) (xi 1)), xv 1 20]) (.seq (xr [xv 21 0, xv 22 5, xo 23 (.iad 3 (.t 21) (.t 22)), xo 24 (.fad 1 (.t 23)), xo 25 (.load 1 false (.t 24)), xv 26 1, xo 27 (.call 17 [false, false] [.t 25, .t 26]), xv 1 27]) (.seq (.seq (xr [xv 28 1, xo 29 (.bin .lss (.t 28) (xi 0))]) (.cond 29 (.seq (xr [xo 4 (.mv (.c (.int .i64 (-1))))]) (.ret)) (.skip))) (.seq (.seq (xr [xv 30 0, xv 31 5, xo 32 (.iad 3 (.t 30) (.t 31)), xo 33 (.fad 2 (.t 32)), xo 34 (.load 1 false (.t 33)), xv 35 1, xo 36 (.bin .neq (.t 34) (.t 35))]) (.cond 36 (.seq (xr [xo 4 (.mv (.c (.int .i64 (-1))))]) (.ret)) (.skip))) (xr [xv 37 1, xo 38 (.bin .add (.t 37) (xi 1)), xv 1 38]))))))) (xr [xv 10 5, xo 11 (.bin .add (.t 10) (xi 1)), xv 5 11])))))) (.seq (xr [xv 39 1, xv 4 39]) (.ret)))⟩
theorem c129 : chkC Try.prog num Try.f90.ntmps m129.body ((Try.f90.body).getD .skip) = true := by kernel_rfl
def m130 : MFn := ⟨15, [.cell 2 3 true], .seq (xr [xo 1 (.box (.t 0)), xo 2 (.alloc [.int .i64 0, .nil, .bool false])]) (.seq (xr [xo 3 (.alloc [.int .i64 0, .nil, .bool false])]) (.seq (xr [xo 4 (.fad 0 (.t 1)), xo 5 (.load 1 false (.t 4)), xo 6 (.fad 0 (.t 3)), ⟨none, .store 1 (.t 6) (.t 5), none⟩]) (.seq (xr [xo 7 (.fad 1 (.t 1)), xo 8 (.load 1 false (.t 7)), xo 9 (.call 5 [false] [.t 8]), xo 10 (.fad 1 (.t 3)), ⟨none, .store 1 (.t 10) (.t 9), none⟩]) (.seq (xr [xo 11 (.fad 2 (.t 1)), xo 12 (.load 1 false (.t 11)), xo 13 (.fad 2 (.t 3)), ⟨none, .store 1 (.t 13) (.t 12), none⟩]) (.seq (xr [xo 14 (.load 3 true (.t 3)), ⟨none, .store 3 (.t 2) (.t 14), none⟩]) (.ret))))))⟩
theorem c130 : chkC Try.prog num Try.f221.ntmps m130.body ((Try.f221.body).getD .skip) = true := by kernel_rfl
def m131 : MFn := ⟨23, [.t 2], .seq (xr [xo 2 (.mv (.c (.nil)))]) (.seq (xr [xv 5 0, xo 6 (.len (.t 5)), xo 7 (.mkS [.int .i64 0, .nil, .bool false] 40 (.t 6) (.t 6)), xv 3 7]) (.seq (.seq (xr [xo 4 (.mv (xi 0))]) (.blk 0 (.loop (.seq (.seq (xr [xv 8 4, xv 9 0, xo 10 (.len (.t 9)), xo 11 (.bin .lss (.t 8) (.t 10))]) (.cond 11 (.skip) (.exit 0))) (.seq (.blk 1 (xr [xv 14 3, xv 15 4, xv 16 0, xv 17 4, xo 18 (.iad 3 (.t 16) (.t 17)), xo 19 (.load 3 true (.t 18)), xo 20 (.call 130 [false] [.t 19]), xo 21 (.iad 3 (.t 14) (.t 15)), ⟨none, .store 3 (.t 21) (.t 20), none⟩])) (xr [xv 12 4, xo 13 (.bin .add (.t 12) (xi 1)), xv 4 13])))))) (.seq (xr [xv 22 3, xv 2 22]) (.ret))))⟩
theorem c131 : chkC Try.prog num Try.f138.ntmps m131.body ((Try.f138.body).getD .skip) = true := by kernel_rfl
def m132 : MFn := ⟨12, [.t 4], .seq (xr [xo 2 (.box (.t 0)), xo 4 (.mv (xi 0))]) (.seq (xr [xo 5 (.fad 1 (.t 2)), xo 6 (.load 1 false (.t 5)), xv 7 1, xo 8 (.call 35 [false, false] [.t 6, .t 7]), xv 1 8]) (.seq (.seq (xr [xv 9 1, xo 10 (.bin .lss (.t 9) (xi 0))]) (.cond 10 (.seq (xr [xo 4 (.mv (.c (.int .i64 (-1))))]) (.ret)) (.skip))) (.seq (xr [xv 11 1, xv 4 11]) (.ret))))⟩
theorem c132 : chkC Try.prog num Try.f215.ntmps m132.body ((Try.f215.body).getD .skip) = true := by kernel_rfl
def m133 : MFn := ⟨27, [.t 4], .seq (xr [xo 4 (.mv (xi 0))]) (.seq (xr [xv 6 1, xv 7 0, xo 8 (.len (.t 7)), xo 9 (.bin .sub (.t 6) (.t 8)), xv 1 9]) (.seq (.seq (xr [xv 10 1, xo 11 (.bin .lss (.t 10) (xi 0))]) (.cond 11 (.seq (xr [xo 4 (.mv (.c (.int .i64 (-1))))]) (.ret)) (.skip))) (.seq (.seq (xr [xo 5 (.mv (xi 0))]) (.blk 0 (.loop (.seq (.seq (xr [xv 12 5, xv 13 0, xo 14 (.len (.t 13)), xo 15 (.bin .lss (.t 12) (.t 14))]) (.cond 15 (.skip) (.exit 0))) (.seq (.blk 1 (.seq (xr [xv 18 0, xv 19 5, xo 20 (.iad 3 (.t 18) (.t 19)), xo 21 (.load 3 true (.t 20)), xv 22 1, xo 23 (.call 132 [false, false] [.t 21, .t 22]), xv 1 23]) (.seq (xr [xv 24 1, xo 25 (.bin .lss (.t 24) (xi 0))]) (.cond 25 (.seq (xr [xo 4 (.mv (.c (.int .i64 (-1))))]) (.ret)) (.skip))))) (xr [xv 16 5, xo 17 (.bin .add (.t 16) (xi 1)), xv 5 17])))))) (.seq (xr [xv 26 1, xv 4 26]) (.ret)))))⟩
theorem c133 : chkC Try.prog num Try.f129.ntmps m133.body ((Try.f129.body).getD .skip) = true := by kernel_rfl
def m134 : MFn := ⟨21, [.t 4], .seq (xr [xo 2 (.box (.t 0)), xo 3 (.box (.t 1)), xo 4 (.mv (.c (.bool false)))]) (.seq (.seq (xr [xo 5 (.fad 0 (.t 2)), xo 6 (.load 1 false (.t 5)), xo 7 (.fad 0 (.t 3)), xo 8 (.load 1 false (.t 7)), xo 9 (.bin .neq (.t 6) (.t 8))]) (.cond 9 (.seq (xr [xo 4 (.mv (.c (.bool false)))]) (.ret)) (.skip))) (.seq (.seq (xr [xo 10 (.fad 1 (.t 2)), xo 11 (.load 1 false (.t 10)), xo 12 (.fad 1 (.t 3)), xo 13 (.load 1 false (.t 12)), xo 14 (.call 8 [false, false] [.t 11, .t 13]), xo 15 (.un .«not» (.t 14))]) (.cond 15 (.seq (xr [xo 4 (.mv (.c (.bool false)))]) (.ret)) (.skip))) (.seq (.seq (xr [xo 16 (.fad 2 (.t 2)), xo 17 (.load 1 false (.t 16)), xo 18 (.fad 2 (.t 3)), xo 19 (.load 1 false (.t 18)), xo 20 (.eqB true (.t 17) (.t 19))]) (.cond 20 (.seq (xr [xo 4 (.mv (.c (.bool false)))]) (.ret)) (.skip))) (.seq (xr [xo 4 (.mv (.c (.bool true)))]) (.ret)))))⟩
theorem c134 : chkC Try.prog num Try.f168.ntmps m134.body ((Try.f168.body).getD .skip) = true := by kernel_rfl
def m135 : MFn := ⟨27, [.t 4], .seq (xr [xo 4 (.mv (.c (.bool false)))]) (.seq (.seq (xr [xv 6 0, xo 7 (.len (.t 6)), xv 8 1, xo 9 (.len (.t 8)), xo 10 (.bin .neq (.t 7) (.t 9))]) (.cond 10 (.seq (xr [xo 4 (.mv (.c (.bool false)))]) (.ret)) (.skip))) (.seq (.seq (xr [xo 5 (.mv (xi 0))]) (.blk 0 (.loop (.seq (.seq (xr [xv 11 5, xv 12 0, xo 13 (.len (.t 12)), xo 14 (.bin .lss (.t 11) (.t 13))]) (.cond 14 (.skip) (.exit 0))) (.seq (.blk 1 (.seq (.dreg (.take 0 (xv 17 0) (.take 1 (xv 18 5) (.take 2 (xo 19 (.iad 3 (.t 17) (.t 18))) (.take 3 (xo 20 (.load 3 true (.t 19))) (.take 4 (xv 21 1) (.only 5 [] (xv 22 5) (.only 6 [4] (xo 23 (.iad 3 (.t 21) (.t 22))) (.only 7 [] (xo 24 (.load 3 true (.t 23))) (.only 8 [3] (xo 25 (.call 134 [false, false] [.t 20, .t 24])) (.only 9 [] (xo 26 (.un .«not» (.t 25))) (.done)))))))))))) (.cond 26 (.seq (xr [xo 4 (.mv (.c (.bool false)))]) (.ret)) (.skip)))) (xr [xv 15 5, xo 16 (.bin .add (.t 15) (xi 1)), xv 5 16])))))) (.seq (xr [xo 4 (.mv (.c (.bool true)))]) (.ret))))⟩
theorem c135 : chkC Try.prog num Try.f83.ntmps m135.body ((Try.f83.body).getD .skip) = true := by kernel_rfl
def m136 : MFn := ⟨36, [.t 4], .seq (xr [xo 4 (.mv (xi 0))]) (.seq (.seq (xr [xo 5 (.mv (xi 0))]) (.blk 0 (.loop (.seq (.seq (xr [xv 6 5, xv 7 0, xo 8 (.len (.t 7)), xo 9 (.bin .lss (.t 6) (.t 8))]) (.cond 9 (.skip) (.exit 0))) (.seq (.blk 1 (.seq (xr [xv 12 0, xv 13 5, xv 14 1, xo 15 (.iad 3 (.t 12) (.t 13)), xo 16 (.fad 0 (.t 15)), ⟨none, .store 1 (.t 16) (.t 14), none⟩]) (.seq (xr [xv 17 1, xo 18 (.bin .add (.t 17) (xi 1)), xv 1 18]) (.seq (xr [xv 19 0, xv 20 5, xo 21 (.iad 3 (.t 19) (.t 20)), xo 22 (.fad 1 (.t 21)), xo 23 (.load 1 false (.t 22)), xv 24 1, xo 25 (.call 16 [true, false] [.t 23, .t 24]), xv 1 25]) (.seq (xr [xv 26 0, xv 27 5, xv 28 1, xo 29 (.bin .rem (.t 28) (xi 3)), xo 30 (.bin .eql (.t 29) (xi 0)), xo 31 (.iad 3 (.t 26) (.t 27)), xo 32 (.fad 2 (.t 31)), ⟨none, .store 1 (.t 32) (.t 30), none⟩]) (xr [xv 33 1, xo 34 (.bin .add (.t 33) (xi 1)), xv 1 34])))))) (xr [xv 10 5, xo 11 (.bin .add (.t 10) (xi 1)), xv 5 11])))))) (.seq (xr [xv 35 1, xv 4 35]) (.ret)))⟩
theorem c136 : chkC Try.prog num Try.f88.ntmps m136.body ((Try.f88.body).getD .skip) = true := by kernel_rfl
def m137 : MFn := ⟨42, [.t 4], .seq (xr [xo 4 (.mv (xi 0))]) (.seq (.seq (xr [xo 5 (.mv (xi 0))]) (.blk 0 (.loop (.seq (.seq (xr [xv 6 5, xv 7 0, xo 8 (.len (.t 7)), xo 9 (.bin .lss (.t 6) (.t 8))]) (.cond 9 (.skip) (.exit 0))) (.seq (.blk 1 (.seq (.seq (xr [xv 12 0, xv 13 5, xo 14 (.iad 3 (.t 12) (.t 13)), xo 15 (.fad 0 (.t 14)), xo 16 (.load 1 false (.t 15)), xv 17 1, xo 18 (.bin .neq (.t 16) (.t 17))]) (.cond 18 (.seq (xr [xo 4 (.mv (.c (.int .i64 (-1))))]) (.ret)) (.skip))) (.seq (xr [xv 19 1, xo 20 (.bin .add (.t 19) (xi 1)), xv 1 20]) (.seq (xr [xv 21 0, xv 22 5, xo 23 (.iad 3 (.t 21) (.t 22)), xo 24 (.fad 1 (.t 23)), xo 25 (.load 1 false (.t 24)), xv 26 1, xo 27 (.call 17 [false, false] [.t 25, .t 26]), xv 1 27]) (.seq (.seq (xr [xv 28 1, xo 29 (.bin .lss (.t 28) (xi 0))]) (.cond 29 (.seq (xr [xo 4 (.mv (.c (.int .i64 (-1))))]) (.ret)) (.skip))) (.seq (.seq (xr [xv 30 0, xv 31 5, xo 32 (.iad 3 (.t 30) (.t 31)), xo 33 (.fad 2 (.t 32)), xo 34 (.load 1 false (.t 33)), xv 35 1, xo 36 (.bin .rem (.t 35) (xi 3)), xo 37 (.bin .eql (.t 36) (xi 0)), xo 38 (.eqB true (.t 34) (.t 37))]) (.cond 38 (.seq (xr [xo 4 (.mv (.c (.int .i64 (-1))))]) (.ret)) (.skip))) (xr [xv 39 1, xo 40 (.bin .add (.t 39) (xi 1)), xv 1 40]))))))) (xr [xv 10 5, xo 11 (.bin .add (.t 10) (xi 1)), xv 5 11])))))) (.seq (xr [xv 41 1, xv 4 41]) (.ret)))⟩
theorem c137 : chkC Try.prog num Try.f91.ntmps m137.body ((Try.f91.body).getD .skip) = true := by kernel_rfl
def m138 : MFn := ⟨17, [.cell 2 3 true], .seq (xr [xo 1 (.box (.t 0)), xo 2 (.alloc [.nil, .nil, .nil])]) (.seq (xr [xo 3 (.alloc [.nil, .nil, .nil])]) (.seq (xr [xo 4 (.fad 0 (.t 1)), xo 5 (.load 1 false (.t 4)), xo 6 (.call 123 [false] [.t 5]), xo 7 (.fad 0 (.t 3)), ⟨none, .store 1 (.t 7) (.t 6), none⟩]) (.seq (xr [xo 8 (.fad 1 (.t 1)), xo 9 (.load 1 false (.t 8)), xo 10 (.call 131 [false] [.t 9]), xo 11 (.fad 1 (.t 3)), ⟨none, .store 1 (.t 11) (.t 10), none⟩]) (.seq (xr [xo 12 (.fad 2 (.t 1)), xo 13 (.load 1 false (.t 12)), xo 14 (.call 116 [false] [.t 13]), xo 15 (.fad 2 (.t 3)), ⟨none, .store 1 (.t 15) (.t 14), none⟩]) (.seq (xr [xo 16 (.load 3 true (.t 3)), ⟨none, .store 3 (.t 2) (.t 16), none⟩]) (.ret))))))⟩
theorem c138 : chkC Try.prog num Try.f46.ntmps m138.body ((Try.f46.body).getD .skip) = true := by kernel_rfl
def m139 : MFn := ⟨24, [.t 4], .seq (xr [xo 2 (.box (.t 0)), xo 4 (.mv (xi 0))]) (.seq (xr [xo 5 (.fad 0 (.t 2)), xo 6 (.load 1 false (.t 5)), xv 7 1, xo 8 (.call 125 [false, false] [.t 6, .t 7]), xv 1 8]) (.seq (.seq (xr [xv 9 1, xo 10 (.bin .lss (.t 9) (xi 0))]) (.cond 10 (.seq (xr [xo 4 (.mv (.c (.int .i64 (-1))))]) (.ret)) (.skip))) (.seq (xr [xo 11 (.fad 1 (.t 2)), xo 12 (.load 1 false (.t 11)), xv 13 1, xo 14 (.call 133 [false, false] [.t 12, .t 13]), xv 1 14]) (.seq (.seq (xr [xv 15 1, xo 16 (.bin .lss (.t 15) (xi 0))]) (.cond 16 (.seq (xr [xo 4 (.mv (.c (.int .i64 (-1))))]) (.ret)) (.skip))) (.seq (xr [xo 17 (.fad 2 (.t 2)), xo 18 (.load 1 false (.t 17)), xv 19 1, xo 20 (.call 117 [false, false] [.t 18, .t 19]), xv 1 20]) (.seq (.seq (xr [xv 21 1, xo 22 (.bin .lss (.t 21) (xi 0))]) (.cond 22 (.seq (xr [xo 4 (.mv (.c (.int .i64 (-1))))]) (.ret)) (.skip))) (.seq (xr [xv 23 1, xv 4 23]) (.ret))))))))⟩
theorem c139 : chkC Try.prog num Try.f43.ntmps m139.body ((Try.f43.body).getD .skip) = true := by kernel_rfl
def m140 : MFn := ⟨23, [.t 4], .seq (xr [xo 2 (.box (.t 0)), xo 3 (.box (.t 1)), xo 4 (.mv (.c (.bool false)))]) (.seq (.seq (xr [xo 5 (.fad 0 (.t 2)), xo 6 (.load 1 false (.t 5)), xo 7 (.fad 0 (.t 3)), xo 8 (.load 1 false (.t 7)), xo 9 (.call 127 [false, false] [.t 6, .t 8]), xo 10 (.un .«not» (.t 9))]) (.cond 10 (.seq (xr [xo 4 (.mv (.c (.bool false)))]) (.ret)) (.skip))) (.seq (.seq (xr [xo 11 (.fad 1 (.t 2)), xo 12 (.load 1 false (.t 11)), xo 13 (.fad 1 (.t 3)), xo 14 (.load 1 false (.t 13)), xo 15 (.call 135 [false, false] [.t 12, .t 14]), xo 16 (.un .«not» (.t 15))]) (.cond 16 (.seq (xr [xo 4 (.mv (.c (.bool false)))]) (.ret)) (.skip))) (.seq (.seq (xr [xo 17 (.fad 2 (.t 2)), xo 18 (.load 1 false (.t 17)), xo 19 (.fad 2 (.t 3)), xo 20 (.load 1 false (.t 19)), xo 21 (.call 119 [false, false] [.t 18, .t 20]), xo 22 (.un .«not» (.t 21))]) (.cond 22 (.seq (xr [xo 4 (.mv (.c (.bool false)))]) (.ret)) (.skip))) (.seq (xr [xo 4 (.mv (.c (.bool true)))]) (.ret)))))⟩
theorem c140 : chkC Try.prog num Try.f20.ntmps m140.body ((Try.f20.body).getD .skip) = true := by kernel_rfl
def m141 : MFn := ⟨18, [.t 4], .seq (xr [xo 2 (.box (.t 0)), xo 4 (.mv (xi 0))]) (.seq (xr [xo 5 (.fad 0 (.t 2)), xo 6 (.load 1 false (.t 5)), xv 7 1, xo 8 (.call 128 [true, false] [.t 6, .t 7]), xv 1 8]) (.seq (xr [xo 9 (.fad 1 (.t 2)), xo 10 (.load 1 false (.t 9)), xv 11 1, xo 12 (.call 136 [true, false] [.t 10, .t 11]), xv 1 12]) (.seq (xr [xo 13 (.fad 2 (.t 2)), xo 14 (.load 1 false (.t 13)), xv 15 1, xo 16 (.call 120 [true, false] [.t 14, .t 15]), xv 1 16]) (.seq (xr [xv 17 1, xv 4 17]) (.ret)))))⟩
theorem c141 : chkC Try.prog num Try.f25.ntmps m141.body ((Try.f25.body).getD .skip) = true := by kernel_rfl
def m142 : MFn := ⟨24, [.t 4], .seq (xr [xo 2 (.box (.t 0)), xo 4 (.mv (xi 0))]) (.seq (xr [xo 5 (.fad 0 (.t 2)), xo 6 (.load 1 false (.t 5)), xv 7 1, xo 8 (.call 129 [false, false] [.t 6, .t 7]), xv 1 8]) (.seq (.seq (xr [xv 9 1, xo 10 (.bin .lss (.t 9) (xi 0))]) (.cond 10 (.seq (xr [xo 4 (.mv (.c (.int .i64 (-1))))]) (.ret)) (.skip))) (.seq (xr [xo 11 (.fad 1 (.t 2)), xo 12 (.load 1 false (.t 11)), xv 13 1, xo 14 (.call 137 [false, false] [.t 12, .t 13]), xv 1 14]) (.seq (.seq (xr [xv 15 1, xo 16 (.bin .lss (.t 15) (xi 0))]) (.cond 16 (.seq (xr [xo 4 (.mv (.c (.int .i64 (-1))))]) (.ret)) (.skip))) (.seq (xr [xo 17 (.fad 2 (.t 2)), xo 18 (.load 1 false (.t 17)), xv 19 1, xo 20 (.call 121 [false, false] [.t 18, .t 19]), xv 1 20]) (.seq (.seq (xr [xv 21 1, xo 22 (.bin .lss (.t 21) (xi 0))]) (.cond 22 (.seq (xr [xo 4 (.mv (.c (.int .i64 (-1))))]) (.ret)) (.skip))) (.seq (xr [xv 23 1, xv 4 23]) (.ret))))))))⟩
theorem c142 : chkC Try.prog num Try.f26.ntmps m142.body ((Try.f26.body).getD .skip) = true := by kernel_rfl
open Nat renaming reduceAdd → qA, reduceMul → qB, reduceEqDiff → qC, reduceBEq → qD
open Int renaming reduceToNat → qE, reduceEq → qF, reduceLT → qG, reduceLE → qH
open List renaming getD_eq_getElem?_getD → gD

/-- Weights of a list, and marks by weights. -/
def tots {α : Type} (w : α → Nat) : List α → Nat
  | [] => 0
  | a :: l => w a + tots w l
theorem tots_app {α : Type} (w : α → Nat) : ∀ (a b : List α), tots w (a ++ b) = tots w a + tots w b
  | [], b => by simp [tots]
  | x :: a, b => by simp only [List.cons_append, tots, tots_app w a b]; omega
theorem tots_take {α : Type} (w : α → Nat) (l : List α) (d : α) (i : Nat) (h : i < l.length) : tots w (l.take (i + 1)) = tots w (l.take i) + w (l.getD i d) := by
  rw [take_snoc l d i h, tots_app]
  simp [tots]
theorem tots_take_le {α : Type} (w : α → Nat) (l : List α) (i : Nat) : tots w (l.take i) ≤ tots w l := by
  have : tots w l = tots w (l.take i) + tots w (l.drop i) := by rw [← tots_app, List.take_append_drop]
  omega
theorem tots_mem {α : Type} {w : α → Nat} : ∀ {l : List α} {x : α}, x ∈ l → w x ≤ tots w l
  | [], x, h => by simp at h
  | a :: l, x, h => by
    simp only [tots]
    rcases List.mem_cons.1 h with rfl | h
    · omega
    · have := tots_mem (w := w) h
      omega
theorem tots_const {α : Type} (c : Nat) : ∀ (l : List α), tots (fun _ => c) l = c * l.length
  | [] => rfl
  | _ :: l => by simp only [tots, tots_const c l, List.length_cons]; rw [Nat.mul_add, Nat.mul_one, Nat.add_comm]
theorem tots_le {α : Type} {w : α → Nat} {c : Nat} : ∀ {l : List α}, (∀ x ∈ l, w x ≤ c) → tots w l ≤ c * l.length
  | [], _ => by simp [tots]
  | a :: l, h => by
    have h1 := h a (by simp)
    have h2 := tots_le (l := l) (fun x hx => h x (by simp [hx]))
    simp only [tots, List.length_cons]
    rw [Nat.mul_add, Nat.mul_one]
    omega
def mks {α : Type} (w : α → Nat) (f : Int → α → α) : Int → List α → List α
  | _, [] => []
  | k, a :: l => f k a :: mks w f (k + w a) l
@[simp] theorem mks_length {α : Type} (w : α → Nat) (f : Int → α → α) : ∀ (k : Int) (l : List α), (mks w f k l).length = l.length
  | _, [] => rfl
  | k, b :: l => by simp [mks, mks_length]
@[simp] theorem mks_take {α : Type} (w : α → Nat) (f : Int → α → α) (k : Int) (l : List α) : (mks w f k l).take l.length = mks w f k l := List.take_of_length_le (by simp)
theorem mks_snoc {α : Type} (w : α → Nat) (f : Int → α → α) : ∀ (k : Int) (a : List α) (b : α), mks w f k (a ++ [b]) = mks w f k a ++ [f (k + tots w a) b]
  | k, [], b => by simp [mks, tots]
  | k, x :: a, b => by
    have e : k + (w x : Int) + (tots w a : Int) = k + ((w x + tots w a : Nat) : Int) := by push_cast; omega
    simp only [List.cons_append, mks, mks_snoc w f _ a b, tots, e]
theorem mks_set {α : Type} (w : α → Nat) (f : Int → α → α) (d : α) (l : List α) (k : Int) (i : Nat) (h : i < l.length) : (mks w f k (l.take i) ++ l.drop i).set i (f (k + tots w (l.take i)) (l.getD i d)) = mks w f k (l.take (i + 1)) ++ l.drop (i + 1) := by
  have hl : (mks w f k (l.take i)).length = i := by simp; omega
  rw [List.set_append_right _ _ (by omega), hl, Nat.sub_self, List.drop_eq_getElem_cons h, List.set_cons_zero, take_snoc l d i h, mks_snoc]
  simp
theorem mks_getD {α : Type} (w : α → Nat) (f : Int → α → α) (d : α) (l : List α) (k : Int) (i : Nat) (h : i < l.length) : (mks w f k (l.take i) ++ l.drop i).getD i d = l.getD i d := by
  have hl : (mks w f k (l.take i)).length = i := by simp; omega
  rw [List.getD_eq_getElem?_getD, List.getElem?_append_right (by omega), hl]
  simp [List.getD_eq_getElem?_getD]
theorem mks_get {α : Type} (w : α → Nat) (f : Int → α → α) (d : α) : ∀ (l : List α) (k : Int) (i : Nat), i < l.length → (mks w f k l).getD i d = f (k + tots w (l.take i)) (l.getD i d)
  | [], k, i, h => by simp at h
  | a :: l, k, 0, h => by simp [mks, tots]
  | a :: l, k, i + 1, h => by
    have := mks_get w f d l (k + w a) i (by simpa using h)
    have e : k + (w a : Int) + (tots w (l.take i) : Int) = k + ((w a + tots w (l.take i) : Nat) : Int) := by push_cast; omega
    simp only [mks, List.getD_cons_succ, List.take_succ_cons, tots, this, e]
theorem szL_add (a b : Nat) (n : Int) (h : 0 ≤ n) : (if szL a n < 0 then -1 else szL b (szL a n)) = szL (a + b) n := by
  unfold szL
  by_cases h1 : n - a < 0
  · rw [if_pos h1, if_pos (by decide), if_pos (by push_cast; omega)]
  · rw [if_neg h1, if_neg h1]
    by_cases h2 : n - a - b < 0
    · rw [if_pos h2, if_pos (by push_cast; omega)]
    · rw [if_neg h2, if_neg (by push_cast; omega)]
      push_cast
      omega
theorem szL_neg {k : Nat} {n : Int} (h : szL k n < 0) : szL k n = -1 := by
  unfold szL at h ⊢
  split
  · rfl
  · rename_i h4; rw [if_neg h4] at h; omega
theorem szL_ge {k : Nat} {n : Int} (h : ¬ szL k n < 0) (h0 : 0 ≤ n) : (k : Int) ≤ n := by
  have := szL_nonneg h
  omega
theorem szL_small {k : Nat} {n : Int} (h : n < k) : szL k n = -1 := by
  unfold szL
  rw [if_pos (by omega)]
theorem szL_big {k : Nat} {n : Int} (h : ¬ n < k) : szL k n = n - k := by
  unfold szL
  rw [if_neg (by omega)]
theorem szRows_eq : ∀ (l : List (List Ins)) (n : Int), 0 ≤ n → szRows l n = szL (tot l) n
  | [], n, h => by
    simp only [szRows, tot]
    unfold szL
    rw [if_neg (by push_cast; omega)]
    push_cast
    omega
  | a :: l, n, h => by
    simp only [szRows, tot]
    rw [← szL_add _ _ _ h]
    by_cases h2 : szL a.length n < 0
    · rw [if_pos h2, if_pos h2]
    · rw [if_neg h2, if_neg h2]
      exact szRows_eq l _ (by omega)
def wProg (p : Prog) : Nat := p.caps.length + (p.bods.length + tot p.bods)
theorem szProg_eq (p : Prog) (n : Int) (h : 0 ≤ n) : szProg p n = szL (wProg p) n := by
  unfold szProg wProg szBods
  rw [← szL_add _ _ _ h]
  by_cases h1 : szL p.caps.length n < 0
  · rw [if_pos h1, if_pos h1]
  · have h1' : 0 ≤ szL p.caps.length n := by omega
    rw [if_neg h1, if_neg h1, ← szL_add _ _ _ h1']
    by_cases h2 : szL p.bods.length (szL p.caps.length n) < 0
    · simp only [if_pos h2]
      rfl
    · simp only [if_neg h2]
      rw [szRows_eq _ _ (by omega)]
      by_cases h3 : szL (tot p.bods) (szL p.bods.length (szL p.caps.length n)) < 0
      · rw [if_pos h3, szL_neg h3]
      · rw [if_neg h3]

theorem toNote_ok (x : Note) : CallOk Try.prog num 115 [.agg (noteC x)] [] (.agg (noteC x)) := by
  refine enter (m := m115) (f := 115) (fn := Try.f219) Try.func219 (by kernel_rfl) rfl c115 rfl (by simp [Try.f219]) (by simp [bnds, bnd, nf_sl, nf_int, nf_bool, nf_str, ints_bnd]) (fun _ _ h => by simp [preH, look] at h) ?_
  unfold m115
  simp only [go_sem, qA, qB, qC, qD, qE, qF, qG, qH]
  repeat refine K ?_
  refine ⟨_, Sub.refl _, FinS_one ?_⟩; simp [-List.drop_one]

theorem toNoteS_ok (l : List Note) (hl : 64 * l.length ≤ 2 ^ 47) : CallOk Try.prog num 116 [.sl .bw 2 (notes l)] [] (.sl .own 2 (notes l)) := by
  refine enter (m := m116) (f := 116) (fn := Try.f136) Try.func136 (by kernel_rfl) rfl c116 rfl (by simp [Try.f136]) (by simp [bnds, bnd, nf_sl, nf_int, nf_bool, nf_str, ints_bnd]) (fun _ _ h => by simp [preH, look] at h) ?_
  unfold m116
  simp only [go_sem, qA, qB, qC, qD, qE, qF, qG, qH]
  repeat refine K ?_
  refine loop_intro (ι := Nat) (fun i => .mk [(0, .sl .bw 2 (notes l)), (3, .ns 10 0 l.length), (4, .int .i64 i)] [(10, 2, notes (l.take i ++ List.replicate (l.length - i) ⟨0, 0⟩))] 11) (fun i => i ≤ l.length) (fun i => l.length - i) 0 (by simp) ?_ ?_
  · refine Sub.shape [] id (by omega) ?_ ?_ ?_ ?_ <;> simp [ints_rep]
    left
    exact notes_rep _ _ _
  · intro i hi
    simp only [go_sem, qA, qB, qC, qD, qE, qF, qG, qH]
    refine branch_intro (fun hc => ?_) (fun hc => ?_)
    · simp only [decide_eq_true_eq] at hc
      have hl' : i < l.length := by omega
      have hm := fill_length l (⟨0, 0⟩ : Note) i hi
      simp only [go_sem, qA, qB, qC, qD, qE, qF, qG, qH, notes_getD l i hl', hm]
      repeat refine K ?_
      refine CA [] (toNote_ok (l.getD i default) ) ?_
      try simp only [go_sem, qA, qB, qC, qD, qE, qF, qG, qH]
      repeat refine K ?_
      have hs := fill_set l default (⟨0, 0⟩ : Note) i hl'

      have hs' : (l.take i ++ List.replicate (l.length - i) (⟨0, 0⟩ : Note)).set i ⟨(l.getD i default).who, (l.getD i default).v⟩ = l.take (i + 1) ++ List.replicate (l.length - (i + 1)) ⟨0, 0⟩ := hs
      try simp only [go_sem, qA, qB, qC, qD, qE, qF, qG, qH, notes_getD _ i (hm ▸ hl'), hm, hs', wrap_succ (i := i) (by omega)]
      repeat refine K ?_
      refine back_intro (i + 1) (Sub.shape [] id (by omega) ?_ ?_ ?_ ?_) ?_ ?_
      any_goals (first | omega | (simp [ints_rep]; done))
    · simp only [decide_eq_false_iff_not] at hc
      have : i = l.length := by omega
      subst this
      simp only [go_sem, qA, qB, qC, qD, qE, qF, qG, qH]
      repeat refine K ?_
      refine ⟨_, Sub.refl _, ?_⟩; simp [FinS, nilL, nilV, oneOr, -List.drop_one]

theorem szNoteS_ok (xs : List Note) (n : Int) (hx : xs.length < 2 ^ 63) (h0 : 0 ≤ n) (h1 : n ≤ 2 ^ 62) : CallOk Try.prog num 117 [.sl .bw 2 (notes xs), .int .i64 n] [] (.int .i64 (szL xs.length n)) := by
  refine enter (m := m117) (f := 117) (fn := Try.f127) Try.func127 (by kernel_rfl) rfl c117 rfl (by simp [Try.f127]) (by simp [bnds, bnd, nf_sl, nf_int, nf_bool, nf_str, ints_bnd]) (fun _ _ h => by simp [preH, look] at h) ?_
  unfold m117
  have hw : IntKind.i64.wrap (n - xs.length) = n - xs.length := wrap64 (by omega) (by omega)
  simp only [go_sem, qA, qB, qC, qD, qE, qF, qG, qH, hw]
  repeat refine K ?_
  refine branch_intro (fun hc => ?_) (fun hc => ?_)
  · simp only [go_sem, qA, qB, qC, qD, qE, qF, qG, qH]
    repeat refine K ?_
    refine ⟨_, Sub.refl _, ?_⟩; simp [FinS, nilL, nilV, oneOr, -List.drop_one]
    simp only [decide_eq_true_eq] at hc
    simp [szL, hc]
  · simp only [go_sem, qA, qB, qC, qD, qE, qF, qG, qH]
    repeat refine K ?_
    refine ⟨_, Sub.refl _, ?_⟩; simp [FinS, nilL, nilV, oneOr, -List.drop_one]
    simp only [decide_eq_false_iff_not] at hc
    simp [szL, hc]

theorem eqNote_ok (x y : Note) : CallOk Try.prog num 118 [.agg (noteC x), .agg (noteC y)] [] (.bool (decide (x = y))) := by
  refine enter (m := m118) (f := 118) (fn := Try.f169) Try.func169 (by kernel_rfl) rfl c118 rfl (by simp [Try.f169]) (by simp [bnds, bnd, nf_sl, nf_int, nf_bool, nf_str, ints_bnd]) (fun _ _ h => by simp [preH, look] at h) ?_
  unfold m118
  cases x
  cases y
  repeat' (first
    | (simp only [go_sem, qA, qB, qC, qD, qE, qF, qG, qH])
    | (refine branch_intro (fun hc => ?_) (fun hc => ?_) <;> ((try simp only [Bool.not_eq_true', Bool.not_eq_false', ne_eq, Bool.not_eq_true, Bool.not_eq_false] at hc) <;> (try simp only [hc])))
    | (refine maybe_intro (fun hc => ?_) (fun hc => ?_) <;> ((try simp only [Bool.not_eq_true', Bool.not_eq_false', ne_eq, Bool.not_eq_true, Bool.not_eq_false] at hc) <;> (try simp only [hc])))
    | (refine dmaybe_intro (fun hc => ?_) (fun hc => ?_) <;> ((try simp only [Bool.not_eq_true', Bool.not_eq_false', ne_eq, Bool.not_eq_true, Bool.not_eq_false] at hc) <;> (try simp only [hc])))
    | (refine ⟨by first | omega | (simp; done), ?_⟩)
    | fail)
  all_goals (refine ⟨_, Sub.refl _, ?_⟩; simp [FinS, nilL, nilV, oneOr, -List.drop_one])
  all_goals (try (simp_all; done))

theorem eqNoteS_ok (xs ys : List Note) (hx : xs.length ≤ 2 ^ 47)  : CallOk Try.prog num 119 [.sl .bw 2 (notes xs), .sl .bw 2 (notes ys)] [] (.bool (decide (xs = ys))) := by
  refine enter (m := m119) (f := 119) (fn := Try.f84) Try.func84 (by kernel_rfl) rfl c119 rfl (by simp [Try.f84]) (by simp [bnds, bnd, nf_sl, nf_int, nf_bool, nf_str, ints_bnd]) (fun _ _ h => by simp [preH, look] at h) ?_
  unfold m119
  simp only [go_sem, qA, qB, qC, qD, qE, qF, qG, qH]
  repeat refine K ?_
  refine branch_intro (fun hc => ?_) (fun hc => ?_)
  · have hne : xs ≠ ys := fun he => by subst he; simp at hc
    simp only [go_sem, qA, qB, qC, qD, qE, qF, qG, qH]
    repeat refine K ?_
    refine ⟨_, Sub.refl _, ?_⟩; simp [FinS, nilL, nilV, oneOr, -List.drop_one]
    exact hne
  · have hl : xs.length = ys.length := by simp at hc; omega
    simp only [go_sem, qA, qB, qC, qD, qE, qF, qG, qH]
    repeat refine K ?_
    refine loop_intro (ι := Nat) (fun i => .mk [(0, .sl .bw 2 (notes xs)), (1, .sl .bw 2 (notes ys)), (5, .int .i64 i)] [] 10) (fun i => i ≤ xs.length ∧ xs.take i = ys.take i) (fun i => xs.length - i) 0 (by simp) ?_ ?_
    · refine Sub.shape [] id (by omega) ?_ ?_ ?_ ?_ <;> simp [ints_rep]
    · rintro i ⟨hi, hp⟩
      simp only [go_sem, qA, qB, qC, qD, qE, qF, qG, qH]
      repeat refine K ?_
      refine branch_intro (fun hc => ?_) (fun hc => ?_)
      · simp only [decide_eq_true_eq] at hc
        have hil : i < xs.length := by omega
        have hjl : i < ys.length := by omega
        simp only [go_sem, qA, qB, qC, qD, qE, qF, qG, qH, notes_getD xs i hil, notes_getD ys i hjl]
        repeat refine K ?_
        refine DA [] (eqNote_ok (xs.getD i default) (ys.getD i default) ) ?_
        try simp only [go_sem, qA, qB, qC, qD, qE, qF, qG, qH]
        repeat refine K ?_
        by_cases he : xs.getD i default = ys.getD i default
        · simp only [go_sem, qA, qB, qC, qD, qE, qF, qG, qH, he, wrap_succ (i := i) (by omega)]
          repeat refine K ?_
          refine back_intro (i + 1) (Sub.shape [] id (by omega) ?_ ?_ ?_ ?_) ?_ ?_
          any_goals (first | omega | (simp [ints_rep]; done))
          refine ⟨hil, ?_⟩
          rw [List.take_succ_eq_append_getElem hil, List.take_succ_eq_append_getElem hjl, hp]
          have he' : xs[i] = ys[i] := by simpa [List.getD_eq_getElem?_getD, hil, hjl] using he
          rw [he']
        · simp only [go_sem, qA, qB, qC, qD, qE, qF, qG, qH, he]
          repeat refine K ?_
          refine ⟨_, Sub.refl _, ?_⟩; simp [FinS, nilL, nilV, oneOr, -List.drop_one]
          intro h
          subst h
          exact he rfl
      · simp only [decide_eq_false_iff_not] at hc
        have he : xs = ys := by
          have h1 : i = xs.length := by omega
          rw [h1, List.take_length, hl, List.take_length] at hp
          exact hp
        simp only [go_sem, qA, qB, qC, qD, qE, qF, qG, qH]
        repeat refine K ?_
        refine ⟨_, Sub.refl _, ?_⟩; simp [FinS, nilL, nilV, oneOr, -List.drop_one]
        exact he

def wNote (_x : Note) : Nat := 2
def markNoteF (k : Int) (_x : Note) : Note := ⟨k, k + 1⟩

theorem markNoteS_ok (l : List Note) (k : Int) (h0 : 0 ≤ k) (h1 : k + tots wNote l < 2 ^ 59) (h2 : l.length < 2 ^ 59) : CallOk Try.prog num 120 [.ns 0 0 l.length, .int .i64 k] [(0, some (2, notes l), some (2, notes (mks wNote markNoteF k l)))] (.int .i64 (k + tots wNote l)) := by
  refine enter (m := m120) (f := 120) (fn := Try.f89) Try.func89 (by kernel_rfl) rfl c120 rfl (by simp [Try.f89]) (by simp [bnds, bnd, nf_sl, nf_int, nf_bool, nf_str, ints_bnd]) (by first | (simp [preH, hb_nil, hb_cons, ints_bnd]; done) | exact hb_cons _ _ _ _ ((hb_nil _).2 trivial) (by decide) (by simp [ints_bnd, bndr, bnds, bnd])) ?_
  unfold m120
  simp only [go_sem, qA, qB, qC, qD, qE, qF, qG, qH]
  repeat refine K ?_
  refine loop_intro (ι := Nat) (fun i => .mk [(0, .ns 0 0 l.length), (1, .int .i64 (k + tots wNote (l.take i))), (5, .int .i64 i)] [(0, 2, notes (mks wNote markNoteF k (l.take i) ++ l.drop i))] 10) (fun i => i ≤ l.length) (fun i => l.length - i) 0 (by omega) ?_ ?_
  · refine Sub.shape [] id (by omega) ?_ ?_ ?_ ?_ <;> simp [ints_rep]
    all_goals simp [mks, tots]
  · intro i hi
    have hm : (mks wNote markNoteF k (l.take i) ++ l.drop i).length = l.length := by simp; omega
    simp only [go_sem, qA, qB, qC, qD, qE, qF, qG, qH, hm]
    refine branch_intro (fun hc => ?_) (fun hc => ?_)
    · simp only [decide_eq_true_eq] at hc
      have hl' : i < l.length := by omega
      have ht := tots_take wNote l default i hl'
      have htl := tots_take_le wNote l (i + 1)
      have hw : wNote (l.getD i default) = 2 := rfl
      have gb : (notes (mks wNote markNoteF k (l.take i) ++ l.drop i)).getD i [] = [.int .i64 (l.getD i default).who, .int .i64 (l.getD i default).v] := by
        rw [notes_getD _ i (hm ▸ hl'), mks_getD _ _ default l k i hl']
      have gw : ∀ r, ((notes (mks wNote markNoteF k (l.take i) ++ l.drop i)).set i r).getD i [] = r := fun r => getD_set_self _ _ _ _ (by rw [notes_length, hm]; exact hl')
      have gi : ∀ a0 a1, (notes ((mks wNote markNoteF k (l.take i) ++ l.drop i).set i ⟨a0, a1⟩)).getD i [] = [.int .i64 a0, .int .i64 a1] := fun a0 a1 => by
        rw [notes_getD _ i (by rw [List.length_set, hm]; exact hl'), getD_set_self _ _ _ _ (by rw [hm]; exact hl')]
      have q0 : IntKind.i64.wrap (k + tots wNote (l.take i) + 1) = k + tots wNote (l.take i) + 1 := wrap64 (by omega) (by omega)
      have q1 : IntKind.i64.wrap (k + tots wNote (l.take i) + 1 + 1) = k + (tots wNote (l.take (i + 1)) : Int) := by rw [wrap64 (by omega) (by omega)]; omega
      have hs := mks_set wNote markNoteF default l k i hl'
      simp only [markNoteF] at hs
      simp only [go_sem, qA, qB, qC, qD, qE, qF, qG, qH, gb, gw, hm, List.length_set, gi, q0, q1, hs, wrap_succ (i := i) (by omega)]
      repeat refine K ?_
      refine back_intro (i + 1) (Sub.shape [] id (by omega) ?_ ?_ ?_ ?_) ?_ ?_
      any_goals (first | omega | (simp [ints_rep]; done))
    · simp only [decide_eq_false_iff_not] at hc
      have he : l.take i = l := List.take_of_length_le (by omega)
      have hd : l.drop i = [] := List.drop_eq_nil_of_le (by omega)
      simp only [go_sem, qA, qB, qC, qD, qE, qF, qG, qH, he, hd]
      repeat refine K ?_
      refine ⟨_, Sub.refl _, ?_⟩; simp [FinS, nilL, nilV, oneOr, -List.drop_one]

theorem heldNoteS_ok (l : List Note) (k : Int) (h0 : 0 ≤ k) (h1 : k + tots wNote l < 2 ^ 59) (h2 : l.length < 2 ^ 59) : CallOk Try.prog num 121 [.sl .bw 2 (notes (mks wNote markNoteF k l)), .int .i64 k] [] (.int .i64 (k + tots wNote l)) := by
  refine enter (m := m121) (f := 121) (fn := Try.f92) Try.func92 (by kernel_rfl) rfl c121 rfl (by simp [Try.f92]) (by simp [bnds, bnd, nf_sl, nf_int, nf_bool, nf_str, ints_bnd]) (fun _ _ h => by simp [preH, look] at h) ?_
  unfold m121
  simp only [go_sem, qA, qB, qC, qD, qE, qF, qG, qH, mks_length]
  repeat refine K ?_
  refine loop_intro (ι := Nat) (fun i => .mk [(0, .sl .bw 2 (notes (mks wNote markNoteF k l))), (1, .int .i64 (k + tots wNote (l.take i))), (5, .int .i64 i)] [] 10) (fun i => i ≤ l.length) (fun i => l.length - i) 0 (by omega) ?_ ?_
  · refine Sub.shape [] id (by omega) ?_ ?_ ?_ ?_ <;> simp [ints_rep]
    all_goals simp [tots]
  · intro i hi
    simp only [go_sem, qA, qB, qC, qD, qE, qF, qG, qH, mks_length]
    repeat refine K ?_
    refine branch_intro (fun hc => ?_) (fun hc => ?_)
    · simp only [decide_eq_true_eq] at hc
      have hl' : i < l.length := by omega
      have ht := tots_take wNote l default i hl'
      have htl := tots_take_le wNote l (i + 1)
      have hw : wNote (l.getD i default) = 2 := rfl
      have gb : (notes (mks wNote markNoteF k l)).getD i [] = [.int .i64 (k + tots wNote (l.take i)), .int .i64 (k + tots wNote (l.take i) + 1)] := by
        rw [notes_getD _ i (by rw [mks_length]; exact hl'), mks_get _ _ default l k i hl']
        rfl
      have q0 : IntKind.i64.wrap (k + tots wNote (l.take i) + 1) = k + tots wNote (l.take i) + 1 := wrap64 (by omega) (by omega)
      have q1 : IntKind.i64.wrap (k + tots wNote (l.take i) + 1 + 1) = k + (tots wNote (l.take (i + 1)) : Int) := by rw [wrap64 (by omega) (by omega)]; omega
      simp only [go_sem, qA, qB, qC, qD, qE, qF, qG, qH, gb, mks_length, q0, q1, wrap_succ (i := i) (by omega)]
      repeat refine K ?_
      refine back_intro (i + 1) (Sub.shape [] id (by omega) ?_ ?_ ?_ ?_) ?_ ?_
      any_goals (first | omega | (simp [ints_rep]; done))
    · simp only [decide_eq_false_iff_not] at hc
      have he : l.take i = l := List.take_of_length_le (by omega)
      simp only [go_sem, qA, qB, qC, qD, qE, qF, qG, qH, he]
      repeat refine K ?_
      refine ⟨_, Sub.refl _, ?_⟩; simp [FinS, nilL, nilV, oneOr, -List.drop_one]

theorem toThread_ok (x : Thread) (h1 : 8 * x.regs.length ≤ 2 ^ 47) : CallOk Try.prog num 122 [.agg (threadC .bw x)] [] (.agg (threadC .own x)) := by
  refine enter (m := m122) (f := 122) (fn := Try.f220) Try.func220 (by kernel_rfl) rfl c122 rfl (by simp [Try.f220]) (by simp [bnds, bnd, nf_sl, nf_int, nf_bool, nf_str, ints_bnd]) (fun _ _ h => by simp [preH, look] at h) ?_
  unfold m122
  simp only [go_sem, qA, qB, qC, qD, qE, qF, qG, qH]
  repeat refine K ?_
  refine CA [] (toIntS_ok x.regs h1) ?_
  try simp only [go_sem, qA, qB, qC, qD, qE, qF, qG, qH]
  repeat refine K ?_
  refine ⟨_, Sub.refl _, FinS_one ?_⟩; simp [-List.drop_one]

theorem nil_threads : ∀ (n : Nat), nilRs (List.replicate n [.int .i64 0, AV.nil, .int .i64 0]) (threads .own (List.replicate n ⟨0, [], 0⟩))
  | 0 => by simp [threads]
  | n + 1 => by
    have := nil_threads n
    simp only [List.replicate_succ, threads, List.map_cons] at this ⊢
    exact (nilRs_cons _ _ _ _).2 ⟨by simp [threadC, ints_nil], this⟩

theorem toThreadS_ok (l : List Thread) (hl : 64 * l.length ≤ 2 ^ 47) (hb1 : ∀ x ∈ l, 8 * x.regs.length ≤ 2 ^ 47) : CallOk Try.prog num 123 [.sl .bw 3 (threads .bw l)] [] (.sl .own 3 (threads .own l)) := by
  refine enter (m := m123) (f := 123) (fn := Try.f137) Try.func137 (by kernel_rfl) rfl c123 rfl (by simp [Try.f137]) (by simp [bnds, bnd, nf_sl, nf_int, nf_bool, nf_str, ints_bnd]) (fun _ _ h => by simp [preH, look] at h) ?_
  unfold m123
  simp only [go_sem, qA, qB, qC, qD, qE, qF, qG, qH]
  repeat refine K ?_
  refine loop_intro (ι := Nat) (fun i => .mk [(0, .sl .bw 3 (threads .bw l)), (3, .ns 10 0 l.length), (4, .int .i64 i)] [(10, 3, threads .own (l.take i ++ List.replicate (l.length - i) ⟨0, [], 0⟩))] 11) (fun i => i ≤ l.length) (fun i => l.length - i) 0 (by simp) ?_ ?_
  · refine Sub.shape [] id (by omega) ?_ ?_ ?_ ?_ <;> simp [ints_rep]
    right
    exact nil_threads _
  · intro i hi
    simp only [go_sem, qA, qB, qC, qD, qE, qF, qG, qH]
    refine branch_intro (fun hc => ?_) (fun hc => ?_)
    · simp only [decide_eq_true_eq] at hc
      have hl' : i < l.length := by omega
      have hm := fill_length l (⟨0, [], 0⟩ : Thread) i hi
      simp only [go_sem, qA, qB, qC, qD, qE, qF, qG, qH, threads_getD .bw l i hl', hm]
      repeat refine K ?_
      refine CA [] (toThread_ok (l.getD i default) (hb1 _ (getD_mem l i default hl'))) ?_
      try simp only [go_sem, qA, qB, qC, qD, qE, qF, qG, qH]
      repeat refine K ?_
      have hs := fill_set l default (⟨0, [], 0⟩ : Thread) i hl'

      try simp only [go_sem, qA, qB, qC, qD, qE, qF, qG, qH, threads_getD .own _ i (hm ▸ hl'), hm, wrap_succ (i := i) (by omega)]
      repeat refine K ?_
      refine back_intro (i + 1) ?_ hl' (by omega)
      refine Sub.trans (Sub.foldAt 10 1 11 rfl (by simp [-gD] <;> omega) rfl (by decide) (by decide) rfl (by simp <;> omega)) ?_
      simp only [fS, qA, qC, threads_set, hs]
      refine Sub.shape [] id (by omega) ?_ ?_ ?_ ?_ <;> simp [ints_rep]
    · simp only [decide_eq_false_iff_not] at hc
      have : i = l.length := by omega
      subst this
      simp only [go_sem, qA, qB, qC, qD, qE, qF, qG, qH]
      repeat refine K ?_
      refine ⟨_, Sub.refl _, ?_⟩; simp [FinS, nilL, nilV, oneOr, -List.drop_one]

theorem szThread_ok (x : Thread) (n : Int) (hx : x.regs.length < 2 ^ 63) (h0 : 0 ≤ n) (h1 : n ≤ 2 ^ 62) : CallOk Try.prog num 124 [.agg (threadC .bw x), .int .i64 n] [] (.int .i64 (szL x.regs.length n)) := by
  refine enter (m := m124) (f := 124) (fn := Try.f214) Try.func214 (by kernel_rfl) rfl c124 rfl (by simp [Try.f214]) (by simp [bnds, bnd, nf_sl, nf_int, nf_bool, nf_str, ints_bnd]) (fun _ _ h => by simp [preH, look] at h) ?_
  unfold m124
  simp only [go_sem, qA, qB, qC, qD, qE, qF, qG, qH]
  repeat refine K ?_
  refine CA [] (szIntS_ok x.regs n hx h0 h1) ?_
  try simp only [go_sem, qA, qB, qC, qD, qE, qF, qG, qH]
  repeat refine K ?_
  refine branch_intro (fun hk => ?_) (fun hk => ?_)
  · simp only [decide_eq_true_eq] at hk
    simp only [go_sem, qA, qB, qC, qD, qE, qF, qG, qH]
    repeat refine K ?_
    refine ⟨_, Sub.refl _, ?_⟩; simp [FinS, nilL, nilV, oneOr, -List.drop_one]
    simp [szL_neg hk]
  · simp only [decide_eq_false_iff_not] at hk
    simp only [go_sem, qA, qB, qC, qD, qE, qF, qG, qH]
    repeat refine K ?_
    refine ⟨_, Sub.refl _, ?_⟩; simp [FinS, nilL, nilV, oneOr, -List.drop_one]

def zThread (x : Thread) : Nat := x.regs.length
theorem szThreadS_ok (l : List Thread) (n : Int) (hl : l.length < 2 ^ 63) (hb : ∀ x ∈ l, x.regs.length < 2 ^ 63) (h0 : 0 ≤ n) (h1 : n ≤ 2 ^ 61) : CallOk Try.prog num 125 [.sl .bw 3 (threads .bw l), .int .i64 n] [] (.int .i64 (szL (l.length + tots zThread l) n)) := by
  refine enter (m := m125) (f := 125) (fn := Try.f128) Try.func128 (by kernel_rfl) rfl c125 rfl (by simp [Try.f128]) (by simp [bnds, bnd, nf_sl, nf_int, nf_bool, nf_str, ints_bnd]) (fun _ _ h => by simp [preH, look] at h) ?_
  unfold m125
  have hw : IntKind.i64.wrap (n - l.length) = n - l.length := wrap64 (by omega) (by omega)
  simp only [go_sem, qA, qB, qC, qD, qE, qF, qG, qH, hw]
  repeat refine K ?_
  refine branch_intro (fun hc => ?_) (fun hc => ?_)
  · simp only [decide_eq_true_eq] at hc
    simp only [go_sem, qA, qB, qC, qD, qE, qF, qG, qH]
    repeat refine K ?_
    refine ⟨_, Sub.refl _, ?_⟩; simp [FinS, nilL, nilV, oneOr, -List.drop_one]
    rw [szL_small (by push_cast; omega)]
  · simp only [decide_eq_false_iff_not] at hc
    simp only [go_sem, qA, qB, qC, qD, qE, qF, qG, qH]
    repeat refine K ?_
    refine loop_intro (ι := Nat) (fun i => .mk [(0, .sl .bw 3 (threads .bw l)), (1, .int .i64 (n - l.length - tots zThread (l.take i))), (5, .int .i64 i)] [] 10) (fun i => i ≤ l.length ∧ (tots zThread (l.take i) : Int) ≤ n - l.length) (fun i => l.length - i) 0 ⟨by simp, by simp [tots]; omega⟩ ?_ ?_
    · refine Sub.shape [] id (by omega) ?_ ?_ ?_ ?_ <;> simp [ints_rep]
      all_goals simp [tots]
    · rintro i ⟨hi, hs⟩
      simp only [go_sem, qA, qB, qC, qD, qE, qF, qG, qH]
      refine branch_intro (fun hc2 => ?_) (fun hc2 => ?_)
      · simp only [decide_eq_true_eq] at hc2
        have hl' : i < l.length := by omega
        have hbl := hb _ (getD_mem l i default hl')
        have ht := tots_take zThread l default i hl'
        have hle := tots_take_le zThread l (i + 1)
        have hz : zThread (l.getD i default) = (l.getD i default).regs.length := rfl
        simp only [go_sem, qA, qB, qC, qD, qE, qF, qG, qH, threads_getD .bw l i hl']
        repeat refine K ?_
        refine CA [] (szThread_ok (l.getD i default) (n - l.length - tots zThread (l.take i)) hbl (by omega) (by omega)) ?_
        try simp only [go_sem, qA, qB, qC, qD, qE, qF, qG, qH]
        repeat refine K ?_
        refine branch_intro (fun hc3 => ?_) (fun hc3 => ?_)
        · simp only [decide_eq_true_eq] at hc3
          have h3 : n - l.length - tots zThread (l.take i) < (l.getD i default).regs.length := by
            apply Int.lt_of_not_ge
            intro h
            rw [szL_big (by omega)] at hc3
            omega
          simp only [go_sem, qA, qB, qC, qD, qE, qF, qG, qH]
          repeat refine K ?_
          refine ⟨_, Sub.refl _, ?_⟩; simp [FinS, nilL, nilV, oneOr, -List.drop_one]
          rw [szL_small (by push_cast; omega)]
        · simp only [decide_eq_false_iff_not] at hc3
          have h3 := szL_nonneg hc3
          rw [h3] at hc3
          have e3 : n - l.length - (tots zThread (l.take i) : Int) - ((l.getD i default).regs.length : Int) = n - l.length - tots zThread (l.take (i + 1)) := by omega
          try simp only [go_sem, qA, qB, qC, qD, qE, qF, qG, qH, h3, e3, wrap_succ (i := i) (by omega)]
          repeat refine K ?_
          refine back_intro (i + 1) (Sub.shape [] id (by omega) ?_ ?_ ?_ ?_) ?_ ?_
          any_goals (first | omega | (simp [ints_rep]; done))
      · simp only [decide_eq_false_iff_not] at hc2
        have he : l.take i = l := List.take_of_length_le (by omega)
        rw [he] at hs
        simp only [go_sem, qA, qB, qC, qD, qE, qF, qG, qH, he]
        repeat refine K ?_
        refine ⟨_, Sub.refl _, ?_⟩; simp [FinS, nilL, nilV, oneOr, -List.drop_one]
        rw [szL_big (by push_cast; omega)]
        try (push_cast; omega)

theorem eqThread_ok (x y : Thread) (h1 : x.regs.length ≤ 2 ^ 47) : CallOk Try.prog num 126 [.agg (threadC .bw x), .agg (threadC .bw y)] [] (.bool (decide (x = y))) := by
  refine enter (m := m126) (f := 126) (fn := Try.f167) Try.func167 (by kernel_rfl) rfl c126 rfl (by simp [Try.f167]) (by simp [bnds, bnd, nf_sl, nf_int, nf_bool, nf_str, ints_bnd]) (fun _ _ h => by simp [preH, look] at h) ?_
  unfold m126
  simp only [go_sem, qA, qB, qC, qD, qE, qF, qG, qH]
  repeat refine K ?_
  by_cases e0 : x.at_ = y.at_
  case neg =>
    try simp only [go_sem, qA, qB, qC, qD, qE, qF, qG, qH, e0]
    repeat refine K ?_
    refine ⟨_, Sub.refl _, ?_⟩; simp [FinS, nilL, nilV, oneOr, -List.drop_one]
    try (intro h; exact e0 (by rw [h]))
  try simp only [go_sem, qA, qB, qC, qD, qE, qF, qG, qH, e0]
  repeat refine K ?_
  refine CA [] (eqIntS_ok x.regs y.regs h1) ?_
  try simp only [go_sem, qA, qB, qC, qD, qE, qF, qG, qH]
  repeat refine K ?_
  by_cases e1 : x.regs = y.regs
  case neg =>
    try simp only [go_sem, qA, qB, qC, qD, qE, qF, qG, qH, e1]
    repeat refine K ?_
    refine ⟨_, Sub.refl _, ?_⟩; simp [FinS, nilL, nilV, oneOr, -List.drop_one]
    try (intro h; exact e1 (by rw [h]))
  try simp only [go_sem, qA, qB, qC, qD, qE, qF, qG, qH, e1]
  repeat refine K ?_
  by_cases e2 : x.st = y.st
  case neg =>
    try simp only [go_sem, qA, qB, qC, qD, qE, qF, qG, qH, e2]
    repeat refine K ?_
    refine ⟨_, Sub.refl _, ?_⟩; simp [FinS, nilL, nilV, oneOr, -List.drop_one]
    try (intro h; exact e2 (by rw [h]))
  try simp only [go_sem, qA, qB, qC, qD, qE, qF, qG, qH, e2]
  repeat refine K ?_
  refine ⟨_, Sub.refl _, ?_⟩; simp [FinS, nilL, nilV, oneOr, -List.drop_one]
  cases x
  cases y
  simp_all

theorem eqThreadS_ok (xs ys : List Thread) (hx : xs.length ≤ 2 ^ 47) (hb1 : ∀ x ∈ xs, x.regs.length ≤ 2 ^ 47) : CallOk Try.prog num 127 [.sl .bw 3 (threads .bw xs), .sl .bw 3 (threads .bw ys)] [] (.bool (decide (xs = ys))) := by
  refine enter (m := m127) (f := 127) (fn := Try.f82) Try.func82 (by kernel_rfl) rfl c127 rfl (by simp [Try.f82]) (by simp [bnds, bnd, nf_sl, nf_int, nf_bool, nf_str, ints_bnd]) (fun _ _ h => by simp [preH, look] at h) ?_
  unfold m127
  simp only [go_sem, qA, qB, qC, qD, qE, qF, qG, qH]
  repeat refine K ?_
  refine branch_intro (fun hc => ?_) (fun hc => ?_)
  · have hne : xs ≠ ys := fun he => by subst he; simp at hc
    simp only [go_sem, qA, qB, qC, qD, qE, qF, qG, qH]
    repeat refine K ?_
    refine ⟨_, Sub.refl _, ?_⟩; simp [FinS, nilL, nilV, oneOr, -List.drop_one]
    exact hne
  · have hl : xs.length = ys.length := by simp at hc; omega
    simp only [go_sem, qA, qB, qC, qD, qE, qF, qG, qH]
    repeat refine K ?_
    refine loop_intro (ι := Nat) (fun i => .mk [(0, .sl .bw 3 (threads .bw xs)), (1, .sl .bw 3 (threads .bw ys)), (5, .int .i64 i)] [] 10) (fun i => i ≤ xs.length ∧ xs.take i = ys.take i) (fun i => xs.length - i) 0 (by simp) ?_ ?_
    · refine Sub.shape [] id (by omega) ?_ ?_ ?_ ?_ <;> simp [ints_rep]
    · rintro i ⟨hi, hp⟩
      simp only [go_sem, qA, qB, qC, qD, qE, qF, qG, qH]
      repeat refine K ?_
      refine branch_intro (fun hc => ?_) (fun hc => ?_)
      · simp only [decide_eq_true_eq] at hc
        have hil : i < xs.length := by omega
        have hjl : i < ys.length := by omega
        simp only [go_sem, qA, qB, qC, qD, qE, qF, qG, qH, threads_getD .bw xs i hil, threads_getD .bw ys i hjl]
        repeat refine K ?_
        refine DA [] (eqThread_ok (xs.getD i default) (ys.getD i default) (hb1 _ (getD_mem xs i default hil))) ?_
        try simp only [go_sem, qA, qB, qC, qD, qE, qF, qG, qH]
        repeat refine K ?_
        by_cases he : xs.getD i default = ys.getD i default
        · simp only [go_sem, qA, qB, qC, qD, qE, qF, qG, qH, he, wrap_succ (i := i) (by omega)]
          repeat refine K ?_
          refine back_intro (i + 1) (Sub.shape [] id (by omega) ?_ ?_ ?_ ?_) ?_ ?_
          any_goals (first | omega | (simp [ints_rep]; done))
          refine ⟨hil, ?_⟩
          rw [List.take_succ_eq_append_getElem hil, List.take_succ_eq_append_getElem hjl, hp]
          have he' : xs[i] = ys[i] := by simpa [List.getD_eq_getElem?_getD, hil, hjl] using he
          rw [he']
        · simp only [go_sem, qA, qB, qC, qD, qE, qF, qG, qH, he]
          repeat refine K ?_
          refine ⟨_, Sub.refl _, ?_⟩; simp [FinS, nilL, nilV, oneOr, -List.drop_one]
          intro h
          subst h
          exact he rfl
      · simp only [decide_eq_false_iff_not] at hc
        have he : xs = ys := by
          have h1 : i = xs.length := by omega
          rw [h1, List.take_length, hl, List.take_length] at hp
          exact hp
        simp only [go_sem, qA, qB, qC, qD, qE, qF, qG, qH]
        repeat refine K ?_
        refine ⟨_, Sub.refl _, ?_⟩; simp [FinS, nilL, nilV, oneOr, -List.drop_one]
        exact he

def wThread (x : Thread) : Nat := 2 + x.regs.length
def markThreadF (k : Int) (x : Thread) : Thread := ⟨k, marks (k + 1) x.regs.length, k + 1 + x.regs.length⟩

theorem markThreadS_ok (l : List Thread) (k : Int) (h0 : 0 ≤ k) (h1 : k + tots wThread l < 2 ^ 59) (h2 : l.length < 2 ^ 59) : CallOk Try.prog num 128 [.ns 0 0 l.length, .int .i64 k] [(0, some (3, threads .own l), some (3, threads .own (mks wThread markThreadF k l)))] (.int .i64 (k + tots wThread l)) := by
  refine enter (m := m128) (f := 128) (fn := Try.f87) Try.func87 (by kernel_rfl) rfl c128 rfl (by simp [Try.f87]) (by simp [bnds, bnd, nf_sl, nf_int, nf_bool, nf_str, ints_bnd]) (by first | (simp [preH, hb_nil, hb_cons, ints_bnd]; done) | exact hb_cons _ _ _ _ ((hb_nil _).2 trivial) (by decide) (by simp [ints_bnd, bndr, bnds, bnd])) ?_
  unfold m128
  simp only [go_sem, qA, qB, qC, qD, qE, qF, qG, qH]
  repeat refine K ?_
  refine loop_intro (ι := Nat) (fun i => .mk [(0, .ns 0 0 l.length), (1, .int .i64 (k + tots wThread (l.take i))), (5, .int .i64 i)] [(0, 3, threads .own (mks wThread markThreadF k (l.take i) ++ l.drop i))] 10) (fun i => i ≤ l.length) (fun i => l.length - i) 0 (by omega) ?_ ?_
  · refine Sub.shape [] id (by omega) ?_ ?_ ?_ ?_ <;> simp [ints_rep]
    all_goals simp [mks, tots]
  · intro i hi
    have hm : (mks wThread markThreadF k (l.take i) ++ l.drop i).length = l.length := by simp; omega
    simp only [go_sem, qA, qB, qC, qD, qE, qF, qG, qH, hm]
    refine branch_intro (fun hc => ?_) (fun hc => ?_)
    · simp only [decide_eq_true_eq] at hc
      have hl' : i < l.length := by omega
      have ht := tots_take wThread l default i hl'
      have htl := tots_take_le wThread l (i + 1)
      have hw : wThread (l.getD i default) = 2 + (l.getD i default).regs.length := rfl
      have gb : (threads .own (mks wThread markThreadF k (l.take i) ++ l.drop i)).getD i [] = [.int .i64 (l.getD i default).at_, .sl .own 1 (ints (l.getD i default).regs), .int .i64 (l.getD i default).st] := by
        rw [threads_getD .own _ i (hm ▸ hl'), mks_getD _ _ default l k i hl']
      have gw : ∀ r, ((threads .own (mks wThread markThreadF k (l.take i) ++ l.drop i)).set i r).getD i [] = r := fun r => getD_set_self _ _ _ _ (by rw [threads_length, hm]; exact hl')
      have gi : ∀ a0 a1 a2, (threads .own ((mks wThread markThreadF k (l.take i) ++ l.drop i).set i ⟨a0, a1, a2⟩)).getD i [] = [.int .i64 a0, .sl .own 1 (ints a1), .int .i64 a2] := fun a0 a1 a2 => by
        rw [threads_getD .own _ i (by rw [List.length_set, hm]; exact hl'), getD_set_self _ _ _ _ (by rw [hm]; exact hl')]
      have gv : ∀ x r, ((threads .own ((mks wThread markThreadF k (l.take i) ++ l.drop i).set i x)).set i r).getD i [] = r := fun x r => getD_set_self _ _ _ _ (by rw [threads_length, List.length_set, hm]; exact hl')
      have q0 : IntKind.i64.wrap (k + tots wThread (l.take i) + 1) = k + tots wThread (l.take i) + 1 := wrap64 (by omega) (by omega)
      have q2 : IntKind.i64.wrap (k + tots wThread (l.take i) + 1 + (l.getD i default).regs.length + 1) = k + (tots wThread (l.take (i + 1)) : Int) := by rw [wrap64 (by omega) (by omega)]; omega
      have hs := mks_set wThread markThreadF default l k i hl'
      simp only [markThreadF] at hs
      simp only [go_sem, qA, qB, qC, qD, qE, qF, qG, qH, gb, gw, hm, List.length_set, gi, gv, q0, q2, wrap_succ (i := i) (by omega)]
      repeat refine K ?_
      refine CA [(0, 10)] (markIntS_ok (l.getD i default).regs (k + tots wThread (l.take i) + 1) (by omega) (by omega)) ?_
      try simp only [go_sem, qA, qB, qC, qD, qE, qF, qG, qH]
      repeat refine K ?_
      try simp only [go_sem, qA, qB, qC, qD, qE, qF, qG, qH, gb, gw, hm, List.length_set, gi, gv, q0, q2, wrap_succ (i := i) (by omega)]
      repeat refine K ?_
      refine back_intro (i + 1) ?_ hl' (by omega)
      refine Sub.trans (Sub.foldAt 0 1 10 rfl (by simp [-gD] <;> omega) rfl (by decide) (by decide) rfl (by simp <;> omega)) ?_
      simp only [fS, qA, qC, marks_length, threads_set, List.set_set, hs]
      refine Sub.shape [] id (by omega) ?_ ?_ ?_ ?_ <;> simp [ints_rep]
    · simp only [decide_eq_false_iff_not] at hc
      have he : l.take i = l := List.take_of_length_le (by omega)
      have hd : l.drop i = [] := List.drop_eq_nil_of_le (by omega)
      simp only [go_sem, qA, qB, qC, qD, qE, qF, qG, qH, he, hd]
      repeat refine K ?_
      refine ⟨_, Sub.refl _, ?_⟩; simp [FinS, nilL, nilV, oneOr, -List.drop_one]

theorem heldThreadS_ok (l : List Thread) (k : Int) (h0 : 0 ≤ k) (h1 : k + tots wThread l < 2 ^ 59) (h2 : l.length < 2 ^ 59) : CallOk Try.prog num 129 [.sl .bw 3 (threads .bw (mks wThread markThreadF k l)), .int .i64 k] [] (.int .i64 (k + tots wThread l)) := by
  refine enter (m := m129) (f := 129) (fn := Try.f90) Try.func90 (by kernel_rfl) rfl c129 rfl (by simp [Try.f90]) (by simp [bnds, bnd, nf_sl, nf_int, nf_bool, nf_str, ints_bnd]) (fun _ _ h => by simp [preH, look] at h) ?_
  unfold m129
  simp only [go_sem, qA, qB, qC, qD, qE, qF, qG, qH, mks_length]
  repeat refine K ?_
  refine loop_intro (ι := Nat) (fun i => .mk [(0, .sl .bw 3 (threads .bw (mks wThread markThreadF k l))), (1, .int .i64 (k + tots wThread (l.take i))), (5, .int .i64 i)] [] 10) (fun i => i ≤ l.length) (fun i => l.length - i) 0 (by omega) ?_ ?_
  · refine Sub.shape [] id (by omega) ?_ ?_ ?_ ?_ <;> simp [ints_rep]
    all_goals simp [tots]
  · intro i hi
    simp only [go_sem, qA, qB, qC, qD, qE, qF, qG, qH, mks_length]
    repeat refine K ?_
    refine branch_intro (fun hc => ?_) (fun hc => ?_)
    · simp only [decide_eq_true_eq] at hc
      have hl' : i < l.length := by omega
      have ht := tots_take wThread l default i hl'
      have htl := tots_take_le wThread l (i + 1)
      have hw : wThread (l.getD i default) = 2 + (l.getD i default).regs.length := rfl
      have gb : (threads .bw (mks wThread markThreadF k l)).getD i [] = [.int .i64 (k + tots wThread (l.take i)), .sl .bw 1 (ints (marks (k + tots wThread (l.take i) + 1) (l.getD i default).regs.length)), .int .i64 (k + tots wThread (l.take i) + 1 + (l.getD i default).regs.length)] := by
        rw [threads_getD .bw _ i (by rw [mks_length]; exact hl'), mks_get _ _ default l k i hl']
        rfl
      have q0 : IntKind.i64.wrap (k + tots wThread (l.take i) + 1) = k + tots wThread (l.take i) + 1 := wrap64 (by omega) (by omega)
      have d1 : decide (k + tots wThread (l.take i) + 1 + (((l.getD i default).regs.length : Nat) : Int) < 0) = false := by simp [-List.getD_eq_getElem?_getD]; omega
      have q2 : IntKind.i64.wrap (k + tots wThread (l.take i) + 1 + (l.getD i default).regs.length + 1) = k + (tots wThread (l.take (i + 1)) : Int) := by rw [wrap64 (by omega) (by omega)]; omega
      simp only [go_sem, qA, qB, qC, qD, qE, qF, qG, qH, gb, mks_length, q0, d1, q2]
      repeat refine K ?_
      refine CA [] (heldIntS_ok (l.getD i default).regs.length (k + tots wThread (l.take i) + 1) (by omega) (by omega)) ?_
      try simp only [go_sem, qA, qB, qC, qD, qE, qF, qG, qH]
      repeat refine K ?_
      try simp only [go_sem, qA, qB, qC, qD, qE, qF, qG, qH, gb, mks_length, q0, d1, q2, wrap_succ (i := i) (by omega)]
      repeat refine K ?_
      refine back_intro (i + 1) (Sub.shape [] id (by omega) ?_ ?_ ?_ ?_) ?_ ?_
      any_goals (first | omega | (simp [ints_rep]; done))
    · simp only [decide_eq_false_iff_not] at hc
      have he : l.take i = l := List.take_of_length_le (by omega)
      simp only [go_sem, qA, qB, qC, qD, qE, qF, qG, qH, he]
      repeat refine K ?_
      refine ⟨_, Sub.refl _, ?_⟩; simp [FinS, nilL, nilV, oneOr, -List.drop_one]

theorem toChan_ok (x : Chan) (h1 : 8 * x.list.length ≤ 2 ^ 47) : CallOk Try.prog num 130 [.agg (chanC .bw x)] [] (.agg (chanC .own x)) := by
  refine enter (m := m130) (f := 130) (fn := Try.f221) Try.func221 (by kernel_rfl) rfl c130 rfl (by simp [Try.f221]) (by simp [bnds, bnd, nf_sl, nf_int, nf_bool, nf_str, ints_bnd]) (fun _ _ h => by simp [preH, look] at h) ?_
  unfold m130
  simp only [go_sem, qA, qB, qC, qD, qE, qF, qG, qH]
  repeat refine K ?_
  refine CA [] (toIntS_ok x.list h1) ?_
  try simp only [go_sem, qA, qB, qC, qD, qE, qF, qG, qH]
  repeat refine K ?_
  refine ⟨_, Sub.refl _, FinS_one ?_⟩; simp [-List.drop_one]

theorem nil_chans : ∀ (n : Nat), nilRs (List.replicate n [.int .i64 0, AV.nil, .bool false]) (chans .own (List.replicate n ⟨0, [], false⟩))
  | 0 => by simp [chans]
  | n + 1 => by
    have := nil_chans n
    simp only [List.replicate_succ, chans, List.map_cons] at this ⊢
    exact (nilRs_cons _ _ _ _).2 ⟨by simp [chanC, ints_nil], this⟩

theorem toChanS_ok (l : List Chan) (hl : 64 * l.length ≤ 2 ^ 47) (hb1 : ∀ x ∈ l, 8 * x.list.length ≤ 2 ^ 47) : CallOk Try.prog num 131 [.sl .bw 3 (chans .bw l)] [] (.sl .own 3 (chans .own l)) := by
  refine enter (m := m131) (f := 131) (fn := Try.f138) Try.func138 (by kernel_rfl) rfl c131 rfl (by simp [Try.f138]) (by simp [bnds, bnd, nf_sl, nf_int, nf_bool, nf_str, ints_bnd]) (fun _ _ h => by simp [preH, look] at h) ?_
  unfold m131
  simp only [go_sem, qA, qB, qC, qD, qE, qF, qG, qH]
  repeat refine K ?_
  refine loop_intro (ι := Nat) (fun i => .mk [(0, .sl .bw 3 (chans .bw l)), (3, .ns 10 0 l.length), (4, .int .i64 i)] [(10, 3, chans .own (l.take i ++ List.replicate (l.length - i) ⟨0, [], false⟩))] 11) (fun i => i ≤ l.length) (fun i => l.length - i) 0 (by simp) ?_ ?_
  · refine Sub.shape [] id (by omega) ?_ ?_ ?_ ?_ <;> simp [ints_rep]
    right
    exact nil_chans _
  · intro i hi
    simp only [go_sem, qA, qB, qC, qD, qE, qF, qG, qH]
    refine branch_intro (fun hc => ?_) (fun hc => ?_)
    · simp only [decide_eq_true_eq] at hc
      have hl' : i < l.length := by omega
      have hm := fill_length l (⟨0, [], false⟩ : Chan) i hi
      simp only [go_sem, qA, qB, qC, qD, qE, qF, qG, qH, chans_getD .bw l i hl', hm]
      repeat refine K ?_
      refine CA [] (toChan_ok (l.getD i default) (hb1 _ (getD_mem l i default hl'))) ?_
      try simp only [go_sem, qA, qB, qC, qD, qE, qF, qG, qH]
      repeat refine K ?_
      have hs := fill_set l default (⟨0, [], false⟩ : Chan) i hl'

      try simp only [go_sem, qA, qB, qC, qD, qE, qF, qG, qH, chans_getD .own _ i (hm ▸ hl'), hm, wrap_succ (i := i) (by omega)]
      repeat refine K ?_
      refine back_intro (i + 1) ?_ hl' (by omega)
      refine Sub.trans (Sub.foldAt 10 1 11 rfl (by simp [-gD] <;> omega) rfl (by decide) (by decide) rfl (by simp <;> omega)) ?_
      simp only [fS, qA, qC, chans_set, hs]
      refine Sub.shape [] id (by omega) ?_ ?_ ?_ ?_ <;> simp [ints_rep]
    · simp only [decide_eq_false_iff_not] at hc
      have : i = l.length := by omega
      subst this
      simp only [go_sem, qA, qB, qC, qD, qE, qF, qG, qH]
      repeat refine K ?_
      refine ⟨_, Sub.refl _, ?_⟩; simp [FinS, nilL, nilV, oneOr, -List.drop_one]

theorem szChan_ok (x : Chan) (n : Int) (hx : x.list.length < 2 ^ 63) (h0 : 0 ≤ n) (h1 : n ≤ 2 ^ 62) : CallOk Try.prog num 132 [.agg (chanC .bw x), .int .i64 n] [] (.int .i64 (szL x.list.length n)) := by
  refine enter (m := m132) (f := 132) (fn := Try.f215) Try.func215 (by kernel_rfl) rfl c132 rfl (by simp [Try.f215]) (by simp [bnds, bnd, nf_sl, nf_int, nf_bool, nf_str, ints_bnd]) (fun _ _ h => by simp [preH, look] at h) ?_
  unfold m132
  simp only [go_sem, qA, qB, qC, qD, qE, qF, qG, qH]
  repeat refine K ?_
  refine CA [] (szIntS_ok x.list n hx h0 h1) ?_
  try simp only [go_sem, qA, qB, qC, qD, qE, qF, qG, qH]
  repeat refine K ?_
  refine branch_intro (fun hk => ?_) (fun hk => ?_)
  · simp only [decide_eq_true_eq] at hk
    simp only [go_sem, qA, qB, qC, qD, qE, qF, qG, qH]
    repeat refine K ?_
    refine ⟨_, Sub.refl _, ?_⟩; simp [FinS, nilL, nilV, oneOr, -List.drop_one]
    simp [szL_neg hk]
  · simp only [decide_eq_false_iff_not] at hk
    simp only [go_sem, qA, qB, qC, qD, qE, qF, qG, qH]
    repeat refine K ?_
    refine ⟨_, Sub.refl _, ?_⟩; simp [FinS, nilL, nilV, oneOr, -List.drop_one]

def zChan (x : Chan) : Nat := x.list.length
theorem szChanS_ok (l : List Chan) (n : Int) (hl : l.length < 2 ^ 63) (hb : ∀ x ∈ l, x.list.length < 2 ^ 63) (h0 : 0 ≤ n) (h1 : n ≤ 2 ^ 61) : CallOk Try.prog num 133 [.sl .bw 3 (chans .bw l), .int .i64 n] [] (.int .i64 (szL (l.length + tots zChan l) n)) := by
  refine enter (m := m133) (f := 133) (fn := Try.f129) Try.func129 (by kernel_rfl) rfl c133 rfl (by simp [Try.f129]) (by simp [bnds, bnd, nf_sl, nf_int, nf_bool, nf_str, ints_bnd]) (fun _ _ h => by simp [preH, look] at h) ?_
  unfold m133
  have hw : IntKind.i64.wrap (n - l.length) = n - l.length := wrap64 (by omega) (by omega)
  simp only [go_sem, qA, qB, qC, qD, qE, qF, qG, qH, hw]
  repeat refine K ?_
  refine branch_intro (fun hc => ?_) (fun hc => ?_)
  · simp only [decide_eq_true_eq] at hc
    simp only [go_sem, qA, qB, qC, qD, qE, qF, qG, qH]
    repeat refine K ?_
    refine ⟨_, Sub.refl _, ?_⟩; simp [FinS, nilL, nilV, oneOr, -List.drop_one]
    rw [szL_small (by push_cast; omega)]
  · simp only [decide_eq_false_iff_not] at hc
    simp only [go_sem, qA, qB, qC, qD, qE, qF, qG, qH]
    repeat refine K ?_
    refine loop_intro (ι := Nat) (fun i => .mk [(0, .sl .bw 3 (chans .bw l)), (1, .int .i64 (n - l.length - tots zChan (l.take i))), (5, .int .i64 i)] [] 10) (fun i => i ≤ l.length ∧ (tots zChan (l.take i) : Int) ≤ n - l.length) (fun i => l.length - i) 0 ⟨by simp, by simp [tots]; omega⟩ ?_ ?_
    · refine Sub.shape [] id (by omega) ?_ ?_ ?_ ?_ <;> simp [ints_rep]
      all_goals simp [tots]
    · rintro i ⟨hi, hs⟩
      simp only [go_sem, qA, qB, qC, qD, qE, qF, qG, qH]
      refine branch_intro (fun hc2 => ?_) (fun hc2 => ?_)
      · simp only [decide_eq_true_eq] at hc2
        have hl' : i < l.length := by omega
        have hbl := hb _ (getD_mem l i default hl')
        have ht := tots_take zChan l default i hl'
        have hle := tots_take_le zChan l (i + 1)
        have hz : zChan (l.getD i default) = (l.getD i default).list.length := rfl
        simp only [go_sem, qA, qB, qC, qD, qE, qF, qG, qH, chans_getD .bw l i hl']
        repeat refine K ?_
        refine CA [] (szChan_ok (l.getD i default) (n - l.length - tots zChan (l.take i)) hbl (by omega) (by omega)) ?_
        try simp only [go_sem, qA, qB, qC, qD, qE, qF, qG, qH]
        repeat refine K ?_
        refine branch_intro (fun hc3 => ?_) (fun hc3 => ?_)
        · simp only [decide_eq_true_eq] at hc3
          have h3 : n - l.length - tots zChan (l.take i) < (l.getD i default).list.length := by
            apply Int.lt_of_not_ge
            intro h
            rw [szL_big (by omega)] at hc3
            omega
          simp only [go_sem, qA, qB, qC, qD, qE, qF, qG, qH]
          repeat refine K ?_
          refine ⟨_, Sub.refl _, ?_⟩; simp [FinS, nilL, nilV, oneOr, -List.drop_one]
          rw [szL_small (by push_cast; omega)]
        · simp only [decide_eq_false_iff_not] at hc3
          have h3 := szL_nonneg hc3
          rw [h3] at hc3
          have e3 : n - l.length - (tots zChan (l.take i) : Int) - ((l.getD i default).list.length : Int) = n - l.length - tots zChan (l.take (i + 1)) := by omega
          try simp only [go_sem, qA, qB, qC, qD, qE, qF, qG, qH, h3, e3, wrap_succ (i := i) (by omega)]
          repeat refine K ?_
          refine back_intro (i + 1) (Sub.shape [] id (by omega) ?_ ?_ ?_ ?_) ?_ ?_
          any_goals (first | omega | (simp [ints_rep]; done))
      · simp only [decide_eq_false_iff_not] at hc2
        have he : l.take i = l := List.take_of_length_le (by omega)
        rw [he] at hs
        simp only [go_sem, qA, qB, qC, qD, qE, qF, qG, qH, he]
        repeat refine K ?_
        refine ⟨_, Sub.refl _, ?_⟩; simp [FinS, nilL, nilV, oneOr, -List.drop_one]
        rw [szL_big (by push_cast; omega)]
        try (push_cast; omega)

theorem eqChan_ok (x y : Chan) (h1 : x.list.length ≤ 2 ^ 47) : CallOk Try.prog num 134 [.agg (chanC .bw x), .agg (chanC .bw y)] [] (.bool (decide (x = y))) := by
  refine enter (m := m134) (f := 134) (fn := Try.f168) Try.func168 (by kernel_rfl) rfl c134 rfl (by simp [Try.f168]) (by simp [bnds, bnd, nf_sl, nf_int, nf_bool, nf_str, ints_bnd]) (fun _ _ h => by simp [preH, look] at h) ?_
  unfold m134
  simp only [go_sem, qA, qB, qC, qD, qE, qF, qG, qH]
  repeat refine K ?_
  by_cases e0 : x.cap = y.cap
  case neg =>
    try simp only [go_sem, qA, qB, qC, qD, qE, qF, qG, qH, e0]
    repeat refine K ?_
    refine ⟨_, Sub.refl _, ?_⟩; simp [FinS, nilL, nilV, oneOr, -List.drop_one]
    try (intro h; exact e0 (by rw [h]))
  try simp only [go_sem, qA, qB, qC, qD, qE, qF, qG, qH, e0]
  repeat refine K ?_
  refine CA [] (eqIntS_ok x.list y.list h1) ?_
  try simp only [go_sem, qA, qB, qC, qD, qE, qF, qG, qH]
  repeat refine K ?_
  by_cases e1 : x.list = y.list
  case neg =>
    try simp only [go_sem, qA, qB, qC, qD, qE, qF, qG, qH, e1]
    repeat refine K ?_
    refine ⟨_, Sub.refl _, ?_⟩; simp [FinS, nilL, nilV, oneOr, -List.drop_one]
    try (intro h; exact e1 (by rw [h]))
  try simp only [go_sem, qA, qB, qC, qD, qE, qF, qG, qH, e1]
  repeat refine K ?_
  have eb : (x.closed == y.closed) = decide (x.closed = y.closed) := by cases x.closed <;> cases y.closed <;> rfl
  by_cases e2 : x.closed = y.closed
  case neg =>
    try simp only [go_sem, qA, qB, qC, qD, qE, qF, qG, qH, eb, e2]
    repeat refine K ?_
    refine ⟨_, Sub.refl _, ?_⟩; simp [FinS, nilL, nilV, oneOr, -List.drop_one]
    try (intro h; exact e2 (by rw [h]))
  try simp only [go_sem, qA, qB, qC, qD, qE, qF, qG, qH, eb, e2]
  repeat refine K ?_
  refine ⟨_, Sub.refl _, ?_⟩; simp [FinS, nilL, nilV, oneOr, -List.drop_one]
  cases x
  cases y
  simp_all

theorem eqChanS_ok (xs ys : List Chan) (hx : xs.length ≤ 2 ^ 47) (hb1 : ∀ x ∈ xs, x.list.length ≤ 2 ^ 47) : CallOk Try.prog num 135 [.sl .bw 3 (chans .bw xs), .sl .bw 3 (chans .bw ys)] [] (.bool (decide (xs = ys))) := by
  refine enter (m := m135) (f := 135) (fn := Try.f83) Try.func83 (by kernel_rfl) rfl c135 rfl (by simp [Try.f83]) (by simp [bnds, bnd, nf_sl, nf_int, nf_bool, nf_str, ints_bnd]) (fun _ _ h => by simp [preH, look] at h) ?_
  unfold m135
  simp only [go_sem, qA, qB, qC, qD, qE, qF, qG, qH]
  repeat refine K ?_
  refine branch_intro (fun hc => ?_) (fun hc => ?_)
  · have hne : xs ≠ ys := fun he => by subst he; simp at hc
    simp only [go_sem, qA, qB, qC, qD, qE, qF, qG, qH]
    repeat refine K ?_
    refine ⟨_, Sub.refl _, ?_⟩; simp [FinS, nilL, nilV, oneOr, -List.drop_one]
    exact hne
  · have hl : xs.length = ys.length := by simp at hc; omega
    simp only [go_sem, qA, qB, qC, qD, qE, qF, qG, qH]
    repeat refine K ?_
    refine loop_intro (ι := Nat) (fun i => .mk [(0, .sl .bw 3 (chans .bw xs)), (1, .sl .bw 3 (chans .bw ys)), (5, .int .i64 i)] [] 10) (fun i => i ≤ xs.length ∧ xs.take i = ys.take i) (fun i => xs.length - i) 0 (by simp) ?_ ?_
    · refine Sub.shape [] id (by omega) ?_ ?_ ?_ ?_ <;> simp [ints_rep]
    · rintro i ⟨hi, hp⟩
      simp only [go_sem, qA, qB, qC, qD, qE, qF, qG, qH]
      repeat refine K ?_
      refine branch_intro (fun hc => ?_) (fun hc => ?_)
      · simp only [decide_eq_true_eq] at hc
        have hil : i < xs.length := by omega
        have hjl : i < ys.length := by omega
        simp only [go_sem, qA, qB, qC, qD, qE, qF, qG, qH, chans_getD .bw xs i hil, chans_getD .bw ys i hjl]
        repeat refine K ?_
        refine DA [] (eqChan_ok (xs.getD i default) (ys.getD i default) (hb1 _ (getD_mem xs i default hil))) ?_
        try simp only [go_sem, qA, qB, qC, qD, qE, qF, qG, qH]
        repeat refine K ?_
        by_cases he : xs.getD i default = ys.getD i default
        · simp only [go_sem, qA, qB, qC, qD, qE, qF, qG, qH, he, wrap_succ (i := i) (by omega)]
          repeat refine K ?_
          refine back_intro (i + 1) (Sub.shape [] id (by omega) ?_ ?_ ?_ ?_) ?_ ?_
          any_goals (first | omega | (simp [ints_rep]; done))
          refine ⟨hil, ?_⟩
          rw [List.take_succ_eq_append_getElem hil, List.take_succ_eq_append_getElem hjl, hp]
          have he' : xs[i] = ys[i] := by simpa [List.getD_eq_getElem?_getD, hil, hjl] using he
          rw [he']
        · simp only [go_sem, qA, qB, qC, qD, qE, qF, qG, qH, he]
          repeat refine K ?_
          refine ⟨_, Sub.refl _, ?_⟩; simp [FinS, nilL, nilV, oneOr, -List.drop_one]
          intro h
          subst h
          exact he rfl
      · simp only [decide_eq_false_iff_not] at hc
        have he : xs = ys := by
          have h1 : i = xs.length := by omega
          rw [h1, List.take_length, hl, List.take_length] at hp
          exact hp
        simp only [go_sem, qA, qB, qC, qD, qE, qF, qG, qH]
        repeat refine K ?_
        refine ⟨_, Sub.refl _, ?_⟩; simp [FinS, nilL, nilV, oneOr, -List.drop_one]
        exact he

def wChan (x : Chan) : Nat := 2 + x.list.length
def markChanF (k : Int) (x : Chan) : Chan := ⟨k, marks (k + 1) x.list.length, decide (Int.tmod (k + 1 + x.list.length) 3 = 0)⟩

theorem markChanS_ok (l : List Chan) (k : Int) (h0 : 0 ≤ k) (h1 : k + tots wChan l < 2 ^ 59) (h2 : l.length < 2 ^ 59) : CallOk Try.prog num 136 [.ns 0 0 l.length, .int .i64 k] [(0, some (3, chans .own l), some (3, chans .own (mks wChan markChanF k l)))] (.int .i64 (k + tots wChan l)) := by
  refine enter (m := m136) (f := 136) (fn := Try.f88) Try.func88 (by kernel_rfl) rfl c136 rfl (by simp [Try.f88]) (by simp [bnds, bnd, nf_sl, nf_int, nf_bool, nf_str, ints_bnd]) (by first | (simp [preH, hb_nil, hb_cons, ints_bnd]; done) | exact hb_cons _ _ _ _ ((hb_nil _).2 trivial) (by decide) (by simp [ints_bnd, bndr, bnds, bnd])) ?_
  unfold m136
  simp only [go_sem, qA, qB, qC, qD, qE, qF, qG, qH]
  repeat refine K ?_
  refine loop_intro (ι := Nat) (fun i => .mk [(0, .ns 0 0 l.length), (1, .int .i64 (k + tots wChan (l.take i))), (5, .int .i64 i)] [(0, 3, chans .own (mks wChan markChanF k (l.take i) ++ l.drop i))] 10) (fun i => i ≤ l.length) (fun i => l.length - i) 0 (by omega) ?_ ?_
  · refine Sub.shape [] id (by omega) ?_ ?_ ?_ ?_ <;> simp [ints_rep]
    all_goals simp [mks, tots]
  · intro i hi
    have hm : (mks wChan markChanF k (l.take i) ++ l.drop i).length = l.length := by simp; omega
    simp only [go_sem, qA, qB, qC, qD, qE, qF, qG, qH, hm]
    refine branch_intro (fun hc => ?_) (fun hc => ?_)
    · simp only [decide_eq_true_eq] at hc
      have hl' : i < l.length := by omega
      have ht := tots_take wChan l default i hl'
      have htl := tots_take_le wChan l (i + 1)
      have hw : wChan (l.getD i default) = 2 + (l.getD i default).list.length := rfl
      have gb : (chans .own (mks wChan markChanF k (l.take i) ++ l.drop i)).getD i [] = [.int .i64 (l.getD i default).cap, .sl .own 1 (ints (l.getD i default).list), .bool (l.getD i default).closed] := by
        rw [chans_getD .own _ i (hm ▸ hl'), mks_getD _ _ default l k i hl']
      have gw : ∀ r, ((chans .own (mks wChan markChanF k (l.take i) ++ l.drop i)).set i r).getD i [] = r := fun r => getD_set_self _ _ _ _ (by rw [chans_length, hm]; exact hl')
      have gi : ∀ a0 a1 a2, (chans .own ((mks wChan markChanF k (l.take i) ++ l.drop i).set i ⟨a0, a1, a2⟩)).getD i [] = [.int .i64 a0, .sl .own 1 (ints a1), .bool a2] := fun a0 a1 a2 => by
        rw [chans_getD .own _ i (by rw [List.length_set, hm]; exact hl'), getD_set_self _ _ _ _ (by rw [hm]; exact hl')]
      have gv : ∀ x r, ((chans .own ((mks wChan markChanF k (l.take i) ++ l.drop i).set i x)).set i r).getD i [] = r := fun x r => getD_set_self _ _ _ _ (by rw [chans_length, List.length_set, hm]; exact hl')
      have q0 : IntKind.i64.wrap (k + tots wChan (l.take i) + 1) = k + tots wChan (l.take i) + 1 := wrap64 (by omega) (by omega)
      have q2 : IntKind.i64.wrap (k + tots wChan (l.take i) + 1 + (l.getD i default).list.length + 1) = k + (tots wChan (l.take (i + 1)) : Int) := by rw [wrap64 (by omega) (by omega)]; omega
      have hs := mks_set wChan markChanF default l k i hl'
      simp only [markChanF] at hs
      simp only [go_sem, qA, qB, qC, qD, qE, qF, qG, qH, gb, gw, hm, List.length_set, gi, gv, q0, q2, wrap_succ (i := i) (by omega)]
      repeat refine K ?_
      refine CA [(0, 10)] (markIntS_ok (l.getD i default).list (k + tots wChan (l.take i) + 1) (by omega) (by omega)) ?_
      try simp only [go_sem, qA, qB, qC, qD, qE, qF, qG, qH]
      repeat refine K ?_
      try simp only [go_sem, qA, qB, qC, qD, qE, qF, qG, qH, gb, gw, hm, List.length_set, gi, gv, q0, q2, wrap_succ (i := i) (by omega)]
      repeat refine K ?_
      refine back_intro (i + 1) ?_ hl' (by omega)
      refine Sub.trans (Sub.foldAt 0 1 10 rfl (by simp [-gD] <;> omega) rfl (by decide) (by decide) rfl (by simp <;> omega)) ?_
      simp only [fS, qA, qC, marks_length, chans_set, List.set_set, hs]
      refine Sub.shape [] id (by omega) ?_ ?_ ?_ ?_ <;> simp [ints_rep]
    · simp only [decide_eq_false_iff_not] at hc
      have he : l.take i = l := List.take_of_length_le (by omega)
      have hd : l.drop i = [] := List.drop_eq_nil_of_le (by omega)
      simp only [go_sem, qA, qB, qC, qD, qE, qF, qG, qH, he, hd]
      repeat refine K ?_
      refine ⟨_, Sub.refl _, ?_⟩; simp [FinS, nilL, nilV, oneOr, -List.drop_one]

theorem heldChanS_ok (l : List Chan) (k : Int) (h0 : 0 ≤ k) (h1 : k + tots wChan l < 2 ^ 59) (h2 : l.length < 2 ^ 59) : CallOk Try.prog num 137 [.sl .bw 3 (chans .bw (mks wChan markChanF k l)), .int .i64 k] [] (.int .i64 (k + tots wChan l)) := by
  refine enter (m := m137) (f := 137) (fn := Try.f91) Try.func91 (by kernel_rfl) rfl c137 rfl (by simp [Try.f91]) (by simp [bnds, bnd, nf_sl, nf_int, nf_bool, nf_str, ints_bnd]) (fun _ _ h => by simp [preH, look] at h) ?_
  unfold m137
  simp only [go_sem, qA, qB, qC, qD, qE, qF, qG, qH, mks_length]
  repeat refine K ?_
  refine loop_intro (ι := Nat) (fun i => .mk [(0, .sl .bw 3 (chans .bw (mks wChan markChanF k l))), (1, .int .i64 (k + tots wChan (l.take i))), (5, .int .i64 i)] [] 10) (fun i => i ≤ l.length) (fun i => l.length - i) 0 (by omega) ?_ ?_
  · refine Sub.shape [] id (by omega) ?_ ?_ ?_ ?_ <;> simp [ints_rep]
    all_goals simp [tots]
  · intro i hi
    simp only [go_sem, qA, qB, qC, qD, qE, qF, qG, qH, mks_length]
    repeat refine K ?_
    refine branch_intro (fun hc => ?_) (fun hc => ?_)
    · simp only [decide_eq_true_eq] at hc
      have hl' : i < l.length := by omega
      have ht := tots_take wChan l default i hl'
      have htl := tots_take_le wChan l (i + 1)
      have hw : wChan (l.getD i default) = 2 + (l.getD i default).list.length := rfl
      have gb : (chans .bw (mks wChan markChanF k l)).getD i [] = [.int .i64 (k + tots wChan (l.take i)), .sl .bw 1 (ints (marks (k + tots wChan (l.take i) + 1) (l.getD i default).list.length)), .bool (decide (Int.tmod (k + tots wChan (l.take i) + 1 + (l.getD i default).list.length) 3 = 0))] := by
        rw [chans_getD .bw _ i (by rw [mks_length]; exact hl'), mks_get _ _ default l k i hl']
        rfl
      have q0 : IntKind.i64.wrap (k + tots wChan (l.take i) + 1) = k + tots wChan (l.take i) + 1 := wrap64 (by omega) (by omega)
      have d1 : decide (k + tots wChan (l.take i) + 1 + (((l.getD i default).list.length : Nat) : Int) < 0) = false := by simp [-List.getD_eq_getElem?_getD]; omega
      have q2 : IntKind.i64.wrap (k + tots wChan (l.take i) + 1 + (l.getD i default).list.length + 1) = k + (tots wChan (l.take (i + 1)) : Int) := by rw [wrap64 (by omega) (by omega)]; omega
      simp only [go_sem, qA, qB, qC, qD, qE, qF, qG, qH, gb, mks_length, q0, d1, q2]
      repeat refine K ?_
      refine CA [] (heldIntS_ok (l.getD i default).list.length (k + tots wChan (l.take i) + 1) (by omega) (by omega)) ?_
      try simp only [go_sem, qA, qB, qC, qD, qE, qF, qG, qH]
      repeat refine K ?_
      try simp only [go_sem, qA, qB, qC, qD, qE, qF, qG, qH, gb, mks_length, q0, d1, q2, wrap_succ (i := i) (by omega)]
      repeat refine K ?_
      refine back_intro (i + 1) (Sub.shape [] id (by omega) ?_ ?_ ?_ ?_) ?_ ?_
      any_goals (first | omega | (simp [ints_rep]; done))
    · simp only [decide_eq_false_iff_not] at hc
      have he : l.take i = l := List.take_of_length_le (by omega)
      simp only [go_sem, qA, qB, qC, qD, qE, qF, qG, qH, he]
      repeat refine K ?_
      refine ⟨_, Sub.refl _, ?_⟩; simp [FinS, nilL, nilV, oneOr, -List.drop_one]

def zSource (s : Source) : Nat := (s.ths.length + tots zThread s.ths) + ((s.chs.length + tots zChan s.chs) + s.tr.length)
theorem szSource_ok (s : Source) (n : Int) (h1 : s.ths.length < 2 ^ 63) (h2 : s.chs.length < 2 ^ 63) (h3 : s.tr.length < 2 ^ 63) (h4 : ∀ t ∈ s.ths, t.regs.length < 2 ^ 63) (h5 : ∀ c ∈ s.chs, c.list.length < 2 ^ 63) (h0 : 0 ≤ n) (hn : n ≤ 2 ^ 61) : CallOk Try.prog num 139 [.agg (sourceC .bw s), .int .i64 n] [] (.int .i64 (szL (zSource s) n)) := by
  refine enter (m := m139) (f := 139) (fn := Try.f43) Try.func43 (by kernel_rfl) rfl c139 rfl (by simp [Try.f43]) (by simp [bnds, bnd, nf_sl, nf_int, nf_bool, nf_str, ints_bnd]) (fun _ _ h => by simp [preH, look] at h) ?_
  unfold m139 zSource
  rw [← szL_add _ _ _ h0]
  simp only [go_sem, qA, qB, qC, qD, qE, qF, qG, qH]
  repeat refine K ?_
  refine CA [] (szThreadS_ok s.ths n h1 h4 h0 hn) ?_
  try simp only [go_sem, qA, qB, qC, qD, qE, qF, qG, qH]
  repeat refine K ?_
  refine branch_intro (fun hk => ?_) (fun hk => ?_)
  · simp only [decide_eq_true_eq] at hk
    rw [if_pos hk]
    simp only [go_sem, qA, qB, qC, qD, qE, qF, qG, qH]
    repeat refine K ?_
    refine ⟨_, Sub.refl _, ?_⟩; simp [FinS, nilL, nilV, oneOr, -List.drop_one]
  · simp only [decide_eq_false_iff_not] at hk
    have e1 := szL_nonneg hk
    rw [if_neg hk, ← szL_add _ _ _ (by omega)]
    simp only [go_sem, qA, qB, qC, qD, qE, qF, qG, qH]
    repeat refine K ?_
    refine CA [] (szChanS_ok s.chs (szL (s.ths.length + tots zThread s.ths) n) h2 h5 (by omega) (by omega)) ?_
    try simp only [go_sem, qA, qB, qC, qD, qE, qF, qG, qH]
    repeat refine K ?_
    refine branch_intro (fun hk2 => ?_) (fun hk2 => ?_)
    · simp only [decide_eq_true_eq] at hk2
      rw [if_pos hk2]
      simp only [go_sem, qA, qB, qC, qD, qE, qF, qG, qH]
      repeat refine K ?_
      refine ⟨_, Sub.refl _, ?_⟩; simp [FinS, nilL, nilV, oneOr, -List.drop_one]
    · simp only [decide_eq_false_iff_not] at hk2
      have e2 := szL_nonneg hk2
      rw [if_neg hk2]
      simp only [go_sem, qA, qB, qC, qD, qE, qF, qG, qH]
      repeat refine K ?_
      refine CA [] (szNoteS_ok s.tr (szL (s.chs.length + tots zChan s.chs) (szL (s.ths.length + tots zThread s.ths) n)) h3 (by omega) (by omega)) ?_
      try simp only [go_sem, qA, qB, qC, qD, qE, qF, qG, qH]
      repeat refine K ?_
      refine branch_intro (fun hk3 => ?_) (fun hk3 => ?_)
      · simp only [decide_eq_true_eq] at hk3
        simp only [go_sem, qA, qB, qC, qD, qE, qF, qG, qH]
        repeat refine K ?_
        refine ⟨_, Sub.refl _, ?_⟩; simp [FinS, nilL, nilV, oneOr, -List.drop_one]
        rw [szL_neg hk3]
      · simp only [go_sem, qA, qB, qC, qD, qE, qF, qG, qH]
        repeat refine K ?_
        refine ⟨_, Sub.refl _, ?_⟩; simp [FinS, nilL, nilV, oneOr, -List.drop_one]

theorem toSource_ok (s : Source) (h1 : 64 * s.ths.length ≤ 2 ^ 47) (h2 : 64 * s.chs.length ≤ 2 ^ 47) (h3 : 64 * s.tr.length ≤ 2 ^ 47) (h4 : ∀ t ∈ s.ths, 8 * t.regs.length ≤ 2 ^ 47) (h5 : ∀ c ∈ s.chs, 8 * c.list.length ≤ 2 ^ 47) : CallOk Try.prog num 138 [.agg (sourceC .bw s)] [] (.agg (sourceC .own s)) := by
  refine enter (m := m138) (f := 138) (fn := Try.f46) Try.func46 (by kernel_rfl) rfl c138 rfl (by simp [Try.f46]) (by simp [bnds, bnd, nf_sl, nf_int, nf_bool, nf_str, ints_bnd]) (fun _ _ h => by simp [preH, look] at h) ?_
  unfold m138
  simp only [go_sem, qA, qB, qC, qD, qE, qF, qG, qH]
  repeat refine K ?_
  refine CA [] (toThreadS_ok s.ths h1 h4) ?_
  try simp only [go_sem, qA, qB, qC, qD, qE, qF, qG, qH]
  repeat refine K ?_
  refine CA [] (toChanS_ok s.chs h2 h5) ?_
  try simp only [go_sem, qA, qB, qC, qD, qE, qF, qG, qH]
  repeat refine K ?_
  refine CA [] (toNoteS_ok s.tr h3) ?_
  try simp only [go_sem, qA, qB, qC, qD, qE, qF, qG, qH]
  repeat refine K ?_
  refine ⟨_, Sub.refl _, FinS_one ?_⟩; simp [-List.drop_one]

theorem eqSource_ok (s u : Source) (h1 : s.ths.length ≤ 2 ^ 47) (h2 : s.chs.length ≤ 2 ^ 47) (h3 : s.tr.length ≤ 2 ^ 47) (h4 : ∀ t ∈ s.ths, t.regs.length ≤ 2 ^ 47) (h5 : ∀ c ∈ s.chs, c.list.length ≤ 2 ^ 47) : CallOk Try.prog num 140 [.agg (sourceC .bw s), .agg (sourceC .bw u)] [] (.bool (decide (s = u))) := by
  refine enter (m := m140) (f := 140) (fn := Try.f20) Try.func20 (by kernel_rfl) rfl c140 rfl (by simp [Try.f20]) (by simp [bnds, bnd, nf_sl, nf_int, nf_bool, nf_str, ints_bnd]) (fun _ _ h => by simp [preH, look] at h) ?_
  unfold m140
  simp only [go_sem, qA, qB, qC, qD, qE, qF, qG, qH]
  repeat refine K ?_
  refine CA [] (eqThreadS_ok s.ths u.ths h1 h4) ?_
  try simp only [go_sem, qA, qB, qC, qD, qE, qF, qG, qH]
  repeat refine K ?_
  by_cases e1 : s.ths = u.ths
  case neg =>
    try simp only [go_sem, qA, qB, qC, qD, qE, qF, qG, qH, e1]
    repeat refine K ?_
    refine ⟨_, Sub.refl _, ?_⟩; simp [FinS, nilL, nilV, oneOr, -List.drop_one]
    intro h
    exact e1 (by rw [h])
  try simp only [go_sem, qA, qB, qC, qD, qE, qF, qG, qH, e1]
  repeat refine K ?_
  refine CA [] (eqChanS_ok s.chs u.chs h2 h5) ?_
  try simp only [go_sem, qA, qB, qC, qD, qE, qF, qG, qH]
  repeat refine K ?_
  by_cases e2 : s.chs = u.chs
  case neg =>
    try simp only [go_sem, qA, qB, qC, qD, qE, qF, qG, qH, e2]
    repeat refine K ?_
    refine ⟨_, Sub.refl _, ?_⟩; simp [FinS, nilL, nilV, oneOr, -List.drop_one]
    intro h
    exact e2 (by rw [h])
  try simp only [go_sem, qA, qB, qC, qD, qE, qF, qG, qH, e2]
  repeat refine K ?_
  refine CA [] (eqNoteS_ok s.tr u.tr h3) ?_
  try simp only [go_sem, qA, qB, qC, qD, qE, qF, qG, qH]
  repeat refine K ?_
  by_cases e3 : s.tr = u.tr
  case neg =>
    try simp only [go_sem, qA, qB, qC, qD, qE, qF, qG, qH, e3]
    repeat refine K ?_
    refine ⟨_, Sub.refl _, ?_⟩; simp [FinS, nilL, nilV, oneOr, -List.drop_one]
    intro h
    exact e3 (by rw [h])
  try simp only [go_sem, qA, qB, qC, qD, qE, qF, qG, qH, e3]
  repeat refine K ?_
  refine ⟨_, Sub.refl _, ?_⟩; simp [FinS, nilL, nilV, oneOr, -List.drop_one]
  cases s
  cases u
  simp_all

def wSource (s : Source) : Nat := tots wThread s.ths + tots wChan s.chs + tots wNote s.tr
def sourceMarks (k : Int) (s : Source) : Source := ⟨mks wThread markThreadF k s.ths, mks wChan markChanF (k + tots wThread s.ths) s.chs, mks wNote markNoteF (k + tots wThread s.ths + tots wChan s.chs) s.tr⟩

theorem markSource_ok (s : Source) (k : Int) (h0 : 0 ≤ k) (h1 : k + wSource s < 2 ^ 58) (h2 : s.ths.length < 2 ^ 59) (h3 : s.chs.length < 2 ^ 59) (h4 : s.tr.length < 2 ^ 59) : CallOk Try.prog num 141 [.agg [.ns 0 0 s.ths.length, .ns 1 0 s.chs.length, .ns 2 0 s.tr.length], .int .i64 k]
    [(0, some (3, threads .own s.ths), some (3, threads .own (mks wThread markThreadF k s.ths))), (1, some (3, chans .own s.chs), some (3, chans .own (mks wChan markChanF (k + tots wThread s.ths) s.chs))), (2, some (2, notes s.tr), some (2, notes (mks wNote markNoteF (k + tots wThread s.ths + tots wChan s.chs) s.tr)))] (.int .i64 (k + wSource s)) := by
  refine enter (m := m141) (f := 141) (fn := Try.f25) Try.func25 (by kernel_rfl) rfl c141 rfl (by simp [Try.f25]) (by simp [bnds, bnd, nf_sl, nf_int, nf_bool, nf_str, ints_bnd]) (by refine hb_cons _ _ _ _ (hb_cons _ _ _ _ (hb_cons _ _ _ _ ((hb_nil _).2 trivial) (by decide) ?_) (by decide) ?_) (by decide) ?_ <;> simp [ints_bnd]) ?_
  unfold m141
  unfold wSource at h1 ⊢
  push_cast at h1 ⊢
  simp only [go_sem, qA, qB, qC, qD, qE, qF, qG, qH]
  repeat refine K ?_
  refine CA [(0, 0)] (markThreadS_ok s.ths k h0 (by omega) h2) ?_
  try simp only [go_sem, qA, qB, qC, qD, qE, qF, qG, qH]
  repeat refine K ?_
  refine CA [(0, 1)] (markChanS_ok s.chs (k + tots wThread s.ths) (by omega) (by omega) h3) ?_
  try simp only [go_sem, qA, qB, qC, qD, qE, qF, qG, qH]
  repeat refine K ?_
  refine CA [(0, 2)] (markNoteS_ok s.tr (k + tots wThread s.ths + tots wChan s.chs) (by omega) (by omega) h4) ?_
  try simp only [go_sem, qA, qB, qC, qD, qE, qF, qG, qH]
  repeat refine K ?_
  refine ⟨_, Sub.refl _, ?_⟩; simp [FinS, nilL, nilV, oneOr, -List.drop_one]
  all_goals omega

theorem heldSource_ok (s : Source) (k : Int) (h0 : 0 ≤ k) (h1 : k + wSource s < 2 ^ 58) (h2 : s.ths.length < 2 ^ 59) (h3 : s.chs.length < 2 ^ 59) (h4 : s.tr.length < 2 ^ 59) : CallOk Try.prog num 142 [.agg (sourceC .bw (sourceMarks k s)), .int .i64 k] [] (.int .i64 (k + wSource s)) := by
  refine enter (m := m142) (f := 142) (fn := Try.f26) Try.func26 (by kernel_rfl) rfl c142 rfl (by simp [Try.f26]) (by simp [bnds, bnd, nf_sl, nf_int, nf_bool, nf_str, ints_bnd]) (fun _ _ h => by simp [preH, look] at h) ?_
  unfold m142
  unfold wSource at h1 ⊢
  push_cast at h1 ⊢
  have d1 : decide (k + (tots wThread s.ths : Int) < 0) = false := by simp; omega
  have d2 : decide (k + (tots wThread s.ths : Int) + (tots wChan s.chs : Int) < 0) = false := by simp; omega
  have d3 : decide (k + (tots wThread s.ths : Int) + (tots wChan s.chs : Int) + (tots wNote s.tr : Int) < 0) = false := by simp; omega
  simp only [go_sem, qA, qB, qC, qD, qE, qF, qG, qH, sourceMarks]
  repeat refine K ?_
  refine CA [] (heldThreadS_ok s.ths k h0 (by omega) h2) ?_
  try simp only [go_sem, qA, qB, qC, qD, qE, qF, qG, qH]
  repeat refine K ?_
  try simp only [go_sem, qA, qB, qC, qD, qE, qF, qG, qH, d1]
  repeat refine K ?_
  refine CA [] (heldChanS_ok s.chs (k + tots wThread s.ths) (by omega) (by omega) h3) ?_
  try simp only [go_sem, qA, qB, qC, qD, qE, qF, qG, qH]
  repeat refine K ?_
  try simp only [go_sem, qA, qB, qC, qD, qE, qF, qG, qH, d2]
  repeat refine K ?_
  refine CA [] (heldNoteS_ok s.tr (k + tots wThread s.ths + tots wChan s.chs) (by omega) (by omega) h4) ?_
  try simp only [go_sem, qA, qB, qC, qD, qE, qF, qG, qH]
  repeat refine K ?_
  try simp only [go_sem, qA, qB, qC, qD, qE, qF, qG, qH, d3]
  repeat refine K ?_
  refine ⟨_, Sub.refl _, ?_⟩; simp [FinS, nilL, nilV, oneOr, -List.drop_one]
  all_goals omega

/-- What both orders come to is shown once. -/
structure Hold (C : Prop) : Prop where
  h : C
theorem join2 {A B C : Prop} (ha : Hold C → A) (hb : Hold C → B) (hc : C) : A ∧ B := ⟨ha ⟨hc⟩, hb ⟨hc⟩⟩
theorem tots_z {α : Type} (z w : α → Nat) (h : ∀ x, w x = 2 + z x) : ∀ (l : List α), tots w l = 2 * l.length + tots z l
  | [] => rfl
  | a :: l => by simp only [tots, tots_z z w h l, h, List.length_cons]; omega
theorem wSource_z (s : Source) : wSource s ≤ 2 * zSource s := by
  unfold wSource zSource
  rw [tots_z zThread wThread (fun _ => rfl), tots_z zChan wChan (fun _ => rfl)]
  have : tots wNote s.tr = 2 * s.tr.length := tots_const 2 s.tr
  omega
/-- The sizes of a source that weighs so much. -/
structure SrcSz (s : Source) (n : Nat) : Prop where
  ths : s.ths.length ≤ n
  chs : s.chs.length ≤ n
  tr : s.tr.length ≤ n
  regs : ∀ t ∈ s.ths, t.regs.length ≤ n
  list : ∀ c ∈ s.chs, c.list.length ≤ n
  w : wSource s ≤ 2 * n
theorem srcSz_of {s : Source} {n : Nat} (h : zSource s ≤ n) : SrcSz s n := by
  have hw := wSource_z s
  unfold zSource at h hw
  exact ⟨by omega, by omega, by omega, fun t ht => by have := tots_mem (w := zThread) ht; unfold zThread at *; omega, fun c hc => by have := tots_mem (w := zChan) hc; unfold zChan at *; omega, by omega⟩
theorem SrcSz.small {s : Source} {n : Nat} (h : SrcSz s n) (hn : n < 2 ^ 40) : Small s :=
  ⟨by have := h.ths; omega, by have := h.chs; omega, by have := h.tr; omega, fun t ht => by have := h.regs t ht; omega, fun c hc => by have := h.list c hc; omega⟩
theorem srcSz_nil : SrcSz ⟨[], [], []⟩ 5000 := ⟨by simp, by simp, by simp, fun t h => by simp at h, fun t h => by simp at h, by simp [wSource, tots]⟩
theorem SrcSz.mono {s : Source} {n m : Nat} (h : SrcSz s n) (hm : n ≤ m) : SrcSz s m :=
  ⟨by have := h.ths; omega, by have := h.chs; omega, by have := h.tr; omega, fun t ht => by have := h.regs t ht; omega, fun c hc => by have := h.list c hc; omega, by have := h.w; omega⟩
/-- The sizes of a program that weighs so much. -/
structure PrgSz (p : Prog) (n : Nat) : Prop where
  caps : p.caps.length ≤ n
  bods : p.bods.length ≤ n
  body : ∀ b ∈ p.bods, b.length ≤ n
  tot : tot p.bods ≤ n
theorem tot_mem : ∀ {l : List (List Ins)} {b : List Ins}, b ∈ l → b.length ≤ tot l
  | [], b, h => by simp at h
  | a :: l, b, h => by
    simp only [tot]
    rcases List.mem_cons.1 h with rfl | h
    · omega
    · have := tot_mem h
      omega
theorem prgSz_of {p : Prog} {n : Nat} (h : wProg p ≤ n) : PrgSz p n := by
  unfold wProg at h
  exact ⟨by omega, by omega, fun b hb => by have := tot_mem hb; omega, by omega⟩
theorem PrgSz.small {p : Prog} {n : Nat} (h : PrgSz p n) (hn : n < 2 ^ 40) : SmallP p := ⟨by have := h.caps; omega, by have := h.bods; omega, fun b hb => by have := h.body b hb; omega⟩


end Go.Sep
