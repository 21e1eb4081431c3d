/- Contracts of functions. -/
import Derived.Test.YtoijhndfkfliiaaConP
namespace Go.Sep
open Go.Proofs
set_option linter.unusedSimpArgs false
set_option linter.unusedVariables false
set_option maxRecDepth 100000
def m19 : MFn := ⟨6, [.t 2], .seq (xr [xo 2 (.mv (.c (.bool false)))]) (.seq (xr [xv 3 0, xo 4 (.len (.t 3)), xo 5 (.bin .gtr (.t 4) (xi 1048576)), xv 2 5]) (.ret))⟩
theorem c19 : chkC Try.prog num Try.f27.ntmps m19.body ((Try.f27.body).getD .skip) = true := by kernel_rfl
def m37 : MFn := ⟨32, [.t 2], .seq (xr [xo 2 (.mv (.c (.nilp)))]) (.seq (xr [xv 5 0, xo 6 (.len (.t 5)), xo 7 (.bin .add (xi 18813) (.t 6)), xv 3 7]) (.seq (.seq (xr [xo 4 (.mv (xi 0))]) (.blk 0 (.loop (.seq (.seq (xr [xv 8 4, xv 9 0, xo 10 (.len (.t 9)), xo 11 (.bin .lss (.t 8) (.t 10)), xv 12 11, xg 13 (.mv (.t 4)) 12 true, xg 14 (.bin .lss (.t 13) (xi 4000)) 12 true, xo 15 (.pick (.t 12) (.t 14) (.c (.bool false)))]) (.cond 15 (.skip) (.exit 0))) (.seq (.blk 1 (xr [xv 18 3, xo 19 (.bin .mul (.t 18) (xi 131)), xv 20 0, xv 21 4, xo 22 (.iad 1 (.t 20) (.t 21)), xo 23 (.load 1 false (.t 22)), xo 24 (.cvi .i64 (.t 23)), xo 25 (.bin .add (.t 19) (.t 24)), xo 26 (.bin .add (.t 25) (xi 7)), xo 27 (.bin .«and» (.t 26) (xi 1073741823)), xv 3 27])) (xr [xv 16 4, xo 17 (.bin .add (.t 16) (xi 1)), xv 4 17])))))) (.seq (xr [xv 28 0, xv 29 3, xo 30 (.build [.nil, .int .i64 0, .int .i64 0] [(0, 1, .t 28), (2, 1, .t 29)]), xo 31 (.box (.t 30)), xv 2 31]) (.ret))))⟩
theorem c37 : chkC Try.prog num Try.f94.ntmps m37.body ((Try.f94.body).getD .skip) = true := by kernel_rfl
def m39 : MFn := ⟨37, [.t 4], .seq (xr [xo 4 (.mv (xi 0))]) (.seq (.seq (xr [xv 9 1, xo 10 (.bin .leq (.t 9) (xi 0))]) (.cond 10 (.seq (xr [xo 4 (.mv (xi 0))]) (.ret)) (.skip))) (.seq (.seq (xr [xv 11 1, xo 12 (.bin .leq (.t 11) (xi 256))]) (.cond 12 (.seq (xr [xv 13 0, xo 14 (.call 58 [true] [.t 13]), xv 15 1, xo 16 (.bin .rem (.t 14) (.t 15)), xv 4 16]) (.ret)) (.skip))) (.seq (xr [xv 17 0, xo 18 (.call 58 [true] [.t 17]), xv 5 18]) (.seq (xr [xv 19 0, xo 20 (.call 58 [true] [.t 19]), xv 6 20]) (.seq (xr [xv 21 0, xo 22 (.call 58 [true] [.t 21]), xv 7 22]) (.seq (xr [xv 23 0, xo 24 (.call 58 [true] [.t 23]), xv 8 24]) (.seq (xr [xv 25 5, xo 26 (.bin .mul (.t 25) (xi 16777216)), xv 27 6, xo 28 (.bin .mul (.t 27) (xi 65536)), xo 29 (.bin .add (.t 26) (.t 28)), xv 30 7, xo 31 (.bin .mul (.t 30) (xi 256)), xo 32 (.bin .add (.t 29) (.t 31)), xv 33 8, xo 34 (.bin .add (.t 32) (.t 33)), xv 35 1, xo 36 (.bin .rem (.t 34) (.t 35)), xv 4 36]) (.ret))))))))⟩
theorem c39 : chkC Try.prog num Try.f112.ntmps m39.body ((Try.f112.body).getD .skip) = true := by kernel_rfl
def m40 : MFn := ⟨9, [.t 4], .seq (xr [xo 4 (.mv (.c (.bool false)))]) (.seq (xr [xv 5 0, xv 6 1, xo 7 (.call 39 [true, false] [.t 5, .t 6]), xo 8 (.bin .eql (.t 7) (xi 0)), xv 4 8]) (.ret))⟩
theorem c40 : chkC Try.prog num Try.f293.ntmps m40.body ((Try.f293.body).getD .skip) = true := by kernel_rfl
def m55 : MFn := ⟨40, [.cell 2 2 true], .seq (xr [xo 2 (.alloc [.nil, .nil])]) (.seq (xr [xo 7 (.build [.nil, .nil] []), xo 3 (.alloc [.nil, .nil]), ⟨none, .store 2 (.t 3) (.t 7), none⟩]) (.seq (xr [xv 8 0, xo 9 (.call 39 [true, false] [.t 8, xi 3]), xo 10 (.bin .add (xi 1) (.t 9)), xv 4 10]) (.seq (.seq (xr [xo 5 (.mv (xi 0))]) (.blk 0 (.loop (.seq (.seq (xr [xv 11 5, xv 12 4, xo 13 (.bin .lss (.t 11) (.t 12))]) (.cond 13 (.skip) (.exit 0))) (.seq (.blk 1 (.dreg (.take 0 (xo 16 (.fad 0 (.t 3))) (.take 1 (xo 17 (.load 1 false (.t 16))) (.only 2 [] (xv 18 0) (.only 3 [] (xo 19 (.call 39 [true, false] [.t 18, xi 4])) (.only 4 [] (xo 20 (.bin .add (xi 1) (.t 19))) (.only 5 [] (xo 21 (.mkSl [xz] 1 [(0, .t 20)])) (.only 6 [1] (xo 22 (.app 1 8 (.t 17) (.t 21))) (.only 7 [0, 1] (xo 23 (.fad 0 (.t 3))) (.only 8 [0, 1] ⟨none, .store 1 (.t 23) (.t 22), none⟩ (.done)))))))))))) (xr [xv 14 5, xo 15 (.bin .add (.t 14) (xi 1)), xv 5 15])))))) (.seq (.seq (xr [xo 6 (.mv (xi 0))]) (.blk 2 (.loop (.seq (.seq (xr [xv 24 6, xv 25 0, xo 26 (.call 39 [true, false] [.t 25, xi 4]), xo 27 (.bin .add (xi 1) (.t 26)), xo 28 (.bin .lss (.t 24) (.t 27))]) (.cond 28 (.skip) (.exit 2))) (.seq (.blk 3 (.dreg (.take 0 (xo 31 (.fad 1 (.t 3))) (.take 1 (xo 32 (.load 1 false (.t 31))) (.take 2 (xv 33 0) (.only 3 [] (xv 34 4) (.only 4 [2] (xo 35 (.call 77 [true, false] [.t 33, .t 34])) (.only 5 [] (xo 36 (.mkSl [.nil] 1 [(0, .t 35)])) (.only 6 [1] (xo 37 (.app 1 24 (.t 32) (.t 36))) (.only 7 [0, 1, 2] (xo 38 (.fad 1 (.t 3))) (.only 8 [0, 1, 2] ⟨none, .store 1 (.t 38) (.t 37), none⟩ (.done)))))))))))) (xr [xv 29 6, xo 30 (.bin .add (.t 29) (xi 1)), xv 6 30])))))) (.seq (xr [xo 39 (.load 2 true (.t 3)), ⟨none, .store 2 (.t 2) (.t 39), none⟩]) (.ret))))))⟩
theorem c55 : chkC Try.prog num Try.f93.ntmps m55.body ((Try.f93.body).getD .skip) = true := by kernel_rfl
def m56 : MFn := ⟨12, [.t 4], .seq (xr [xo 4 (.mv (xi 0))]) (.seq (xr [xv 5 1, xv 6 0, xv 7 1, xo 8 (.len (.t 7)), xo 9 (.call 39 [true, false] [.t 6, .t 8]), xo 10 (.iad 1 (.t 5) (.t 9)), xo 11 (.load 1 false (.t 10)), xv 4 11]) (.ret))⟩
theorem c56 : chkC Try.prog num Try.f231.ntmps m56.body ((Try.f231.body).getD .skip) = true := by kernel_rfl
def m58 : MFn := ⟨58, [.t 2], .seq (xr [xo 2 (.mv (xi 0))]) (.seq (xr [xv 4 0, xv 5 0, xo 6 (.nilck (.t 5)), xo 7 (.fad 2 (.t 6)), xo 8 (.load 1 false (.t 7)), xo 9 (.bin .mul (.t 8) (xi 6364136223846793005)), xo 10 (.bin .add (.t 9) (xi 1442695040888963407)), xo 11 (.nilck (.t 4)), xo 12 (.fad 2 (.t 11)), ⟨none, .store 1 (.t 12) (.t 10), none⟩]) (.seq (.dreg (.take 0 (xv 13 0) (.take 1 (xo 14 (.nilck (.t 13))) (.take 2 (xo 15 (.fad 2 (.t 14))) (.take 3 (xo 16 (.load 1 false (.t 15))) (.take 4 (xo 17 (.bin .shr (.t 16) (.c (.int .u64 33)))) (.only 5 [] (xv 18 0) (.only 6 [] (xo 19 (.nilck (.t 18))) (.only 7 [] (xo 20 (.fad 2 (.t 19))) (.only 8 [] (xo 21 (.load 1 false (.t 20))) (.only 9 [] (xo 22 (.bin .shr (.t 21) (.c (.int .u64 45)))) (.only 10 [4] (xo 23 (.bin .xor (.t 17) (.t 22))) (.only 11 [] (xo 24 (.bin .«and» (.t 23) (xi 255))) (.only 12 [0, 1, 2, 3, 4] (xv 3 24) (.done))))))))))))))) (.seq (.seq (.dreg (.take 0 (xv 25 0) (.take 1 (xo 26 (.nilck (.t 25))) (.take 2 (xo 27 (.fad 1 (.t 26))) (.take 3 (xo 28 (.load 1 false (.t 27))) (.only 4 [] (xv 29 0) (.only 5 [] (xo 30 (.nilck (.t 29))) (.only 6 [] (xo 31 (.fad 0 (.t 30))) (.only 7 [] (xo 32 (.load 1 false (.t 31))) (.only 8 [] (xo 33 (.len (.t 32))) (.only 9 [3] (xo 34 (.bin .lss (.t 28) (.t 33))) (.done)))))))))))) (.cond 34 (.seq (.dreg (.take 0 (xv 35 3) (.take 1 (xv 36 0) (.take 2 (xo 37 (.nilck (.t 36))) (.take 3 (xo 38 (.fad 0 (.t 37))) (.take 4 (xo 39 (.load 1 false (.t 38))) (.only 5 [] (xv 40 0) (.only 6 [] (xo 41 (.nilck (.t 40))) (.only 7 [] (xo 42 (.fad 1 (.t 41))) (.only 8 [] (xo 43 (.load 1 false (.t 42))) (.only 9 [4] (xo 44 (.iad 1 (.t 39) (.t 43))) (.only 10 [] (xo 45 (.load 1 false (.t 44))) (.only 11 [] (xo 46 (.cvi .i64 (.t 45))) (.only 12 [0] (xo 47 (.bin .add (.t 35) (.t 46))) (.only 13 [] (xo 48 (.bin .«and» (.t 47) (xi 255))) (.only 14 [0, 1, 2, 3, 4] (xv 3 48) (.done))))))))))))))))) (xr [xv 49 0, xv 50 0, xo 51 (.nilck (.t 50)), xo 52 (.fad 1 (.t 51)), xo 53 (.load 1 false (.t 52)), xo 54 (.bin .add (.t 53) (xi 1)), xo 55 (.nilck (.t 49)), xo 56 (.fad 1 (.t 55)), ⟨none, .store 1 (.t 56) (.t 54), none⟩])) (.skip))) (.seq (xr [xv 57 3, xv 2 57]) (.ret)))))⟩
theorem c58 : chkC Try.prog num Try.f206.ntmps m58.body ((Try.f206.body).getD .skip) = true := by kernel_rfl
def m77 : MFn := ⟨83, [.t 4], .seq (xr [xo 4 (.mv (.c (.nil)))]) (.seq (xr [xv 10 0, xv 11 1, xo 12 (.call 39 [true, false] [.t 10, .t 11]), xv 5 12]) (.seq (xr [xv 13 0, xv 14 1, xo 15 (.call 39 [true, false] [.t 13, .t 14]), xv 6 15]) (.seq (.seq (xr [xv 16 0, xo 17 (.call 39 [true, false] [.t 16, xi 5])]) (.blk 0 (.seq (xr [xo 19 (.bin .eql (.t 17) (xi 0)), xv 18 19]) (.cond 18 (.seq (xr [xo 20 (.build [xz, xz, xz, xz, xz] [(0, 1, xi 1), (1, 1, xi 0), (4, 1, xi 3)]), xo 21 (.build [xz, xz, xz, xz, xz] [(0, 1, xi 1), (1, 1, xi 1), (4, 1, xi 1)]), xv 22 5, xo 23 (.build [xz, xz, xz, xz, xz] [(0, 1, xi 5), (2, 1, xi 0), (4, 1, .t 22)]), xo 24 (.build [xz, xz, xz, xz, xz] [(0, 1, xi 3), (1, 1, xi 0), (2, 1, xi 0), (3, 1, xi 1)]), xo 25 (.build [xz, xz, xz, xz, xz] [(0, 1, xi 12), (2, 1, xi 0), (4, 1, xi 6)]), xo 26 (.build [xz, xz, xz, xz, xz] [(0, 1, xi 11), (4, 1, xi 2)]), xo 27 (.build [xz, xz, xz, xz, xz] [(0, 1, xi 13)]), xo 28 (.mkSl [xz, xz, xz, xz, xz] 7 [(0, .t 20), (1, .t 21), (2, .t 23), (3, .t 24), (4, .t 25), (5, .t 26), (6, .t 27)]), xv 4 28]) (.ret)) (.seq (xr [xo 30 (.bin .eql (.t 17) (xi 1)), xv 29 30]) (.cond 29 (.seq (xr [xv 31 5, xo 32 (.build [xz, xz, xz, xz, xz] [(0, 1, xi 6), (1, 1, xi 0), (3, 1, xi 1), (4, 1, .t 31)]), xo 33 (.build [xz, xz, xz, xz, xz] [(0, 1, xi 12), (2, 1, xi 1), (4, 1, xi 4)]), xo 34 (.build [xz, xz, xz, xz, xz] [(0, 1, xi 10), (2, 1, xi 0)]), xo 35 (.build [xz, xz, xz, xz, xz] [(0, 1, xi 11)]), xo 36 (.build [xz, xz, xz, xz, xz] [(0, 1, xi 13)]), xo 37 (.mkSl [xz, xz, xz, xz, xz] 5 [(0, .t 32), (1, .t 33), (2, .t 34), (3, .t 35), (4, .t 36)]), xv 4 37]) (.ret)) (.seq (xr [xo 39 (.bin .eql (.t 17) (xi 2)), xv 38 39]) (.cond 38 (.seq (xr [xv 40 5, xo 41 (.build [xz, xz, xz, xz, xz] [(0, 1, xi 6), (1, 1, xi 0), (3, 1, xi 1), (4, 1, .t 40)]), xo 42 (.build [xz, xz, xz, xz, xz] [(0, 1, xi 2), (1, 1, xi 0), (2, 1, xi 0), (3, 1, xi 1)]), xv 43 6, xo 44 (.build [xz, xz, xz, xz, xz] [(0, 1, xi 5), (2, 1, xi 0), (4, 1, .t 43)]), xo 45 (.build [xz, xz, xz, xz, xz] [(0, 1, xi 10), (2, 1, xi 0)]), xo 46 (.build [xz, xz, xz, xz, xz] [(0, 1, xi 11)]), xo 47 (.mkSl [xz, xz, xz, xz, xz] 5 [(0, .t 41), (1, .t 42), (2, .t 44), (3, .t 45), (4, .t 46)]), xv 4 47]) (.ret)) (.seq (xr [xo 49 (.bin .eql (.t 17) (xi 3)), xv 48 49]) (.cond 48 (.seq (xr [xo 50 (.build [xz, xz, xz, xz, xz] [(0, 1, xi 1), (1, 1, xi 2), (4, 1, xi 5)]), xv 51 5, xo 52 (.build [xz, xz, xz, xz, xz] [(0, 1, xi 7), (1, 1, xi 3), (2, 1, xi 2), (4, 1, .t 51)]), xv 53 6, xo 54 (.build [xz, xz, xz, xz, xz] [(0, 1, xi 8), (1, 1, xi 0), (3, 1, xi 1), (4, 1, .t 53)]), xo 55 (.build [xz, xz, xz, xz, xz] [(0, 1, xi 10), (2, 1, xi 1)]), xo 56 (.build [xz, xz, xz, xz, xz] [(0, 1, xi 2), (1, 1, xi 2), (2, 1, xi 2), (3, 1, xi 3)]), xo 57 (.build [xz, xz, xz, xz, xz] [(0, 1, xi 11), (4, 1, xi 1)]), xo 58 (.mkSl [xz, xz, xz, xz, xz] 6 [(0, .t 50), (1, .t 52), (2, .t 54), (3, .t 55), (4, .t 56), (5, .t 57)]), xv 4 58]) (.ret)) (.skip))))))))))) (.seq (xr [xv 59 0, xo 60 (.call 39 [true, false] [.t 59, xi 9]), xo 61 (.bin .add (xi 2) (.t 60)), xv 7 61]) (.seq (xr [xo 62 (.mkSl [xz, xz, xz, xz, xz] 0 []), xv 8 62]) (.seq (.seq (xr [xo 9 (.mv (xi 0))]) (.blk 1 (.loop (.seq (.seq (xr [xv 63 9, xv 64 7, xo 65 (.bin .lss (.t 63) (.t 64))]) (.cond 65 (.skip) (.exit 1))) (.seq (.blk 2 (xr [xv 68 8, xv 69 0, xv 70 7, xo 71 (.bin .add (.t 70) (xi 1)), xv 72 1, xo 73 (.call 91 [true, false, false] [.t 69, .t 71, .t 72]), xo 74 (.mkSl [xz, xz, xz, xz, xz] 1 [(0, .t 73)]), xo 75 (.app 5 40 (.t 68) (.t 74)), xv 8 75])) (xr [xv 66 9, xo 67 (.bin .add (.t 66) (xi 1)), xv 9 67])))))) (.seq (xr [xv 76 8, xv 77 0, xo 78 (.mkSl [xz] 2 [(0, xi 13), (1, xi 11)]), xo 79 (.call 56 [true, false] [.t 77, .t 78]), xo 80 (.build [xz, xz, xz, xz, xz] [(0, 1, .t 79)]), xo 81 (.mkSl [xz, xz, xz, xz, xz] 1 [(0, .t 80)]), xo 82 (.app 5 40 (.t 76) (.t 81)), xv 4 82]) (.ret))))))))⟩
theorem c77 : chkC Try.prog num Try.f172.ntmps m77.body ((Try.f172.body).getD .skip) = true := by kernel_rfl
def m91 : MFn := ⟨91, [.cell 6 5 true], .seq (xr [xo 6 (.alloc [xz, xz, xz, xz, xz])]) (.seq (xr [xv 11 0, xo 12 (.call 39 [true, false] [.t 11, xi 4]), xv 13 0, xo 14 (.call 39 [true, false] [.t 13, xi 4]), xv 15 0, xo 16 (.call 39 [true, false] [.t 15, xi 4]), xv 7 12, xv 8 14, xv 9 16]) (.seq (xr [xv 17 0, xv 18 2, xo 19 (.call 98 [false, false] [.t 18, xi 1]), xo 20 (.call 39 [true, false] [.t 17, .t 19]), xv 10 20]) (.seq (.seq (xr [xv 21 0, xo 22 (.call 39 [true, false] [.t 21, xi 16])]) (.blk 0 (.seq (.seq (xr [xo 24 (.bin .eql (.t 22) (xi 0)), xv 23 24]) (.cond 23 (.skip) (xr [xo 25 (.bin .eql (.t 22) (xi 1)), xv 23 25]))) (.cond 23 (.seq (xr [xv 26 7, xv 27 0, xo 28 (.call 39 [true, false] [.t 27, xi 9]), xo 29 (.bin .sub (.t 28) (xi 2)), xo 30 (.build [xz, xz, xz, xz, xz] [(0, 1, xi 1), (1, 1, .t 26), (4, 1, .t 29)]), ⟨none, .store 5 (.t 6) (.t 30), none⟩]) (.ret)) (.seq (.seq (xr [xo 32 (.bin .eql (.t 22) (xi 2)), xv 31 32]) (.cond 31 (.skip) (xr [xo 33 (.bin .eql (.t 22) (xi 3)), xv 31 33]))) (.cond 31 (.seq (xr [xv 34 0, xo 35 (.call 39 [true, false] [.t 34, xi 3]), xo 36 (.bin .add (xi 2) (.t 35)), xv 37 7, xv 38 8, xv 39 9, xo 40 (.build [xz, xz, xz, xz, xz] [(0, 1, .t 36), (1, 1, .t 37), (2, 1, .t 38), (3, 1, .t 39)]), ⟨none, .store 5 (.t 6) (.t 40), none⟩]) (.ret)) (.seq (.seq (xr [xo 42 (.bin .eql (.t 22) (xi 4)), xv 41 42]) (.cond 41 (.skip) (.seq (xr [xo 43 (.bin .eql (.t 22) (xi 5)), xv 41 43]) (.cond 41 (.skip) (xr [xo 44 (.bin .eql (.t 22) (xi 6)), xv 41 44]))))) (.cond 41 (.seq (xr [xv 45 8, xv 46 10, xo 47 (.build [xz, xz, xz, xz, xz] [(0, 1, xi 5), (2, 1, .t 45), (4, 1, .t 46)]), ⟨none, .store 5 (.t 6) (.t 47), none⟩]) (.ret)) (.seq (.seq (xr [xo 49 (.bin .eql (.t 22) (xi 7)), xv 48 49]) (.cond 48 (.skip) (.seq (xr [xo 50 (.bin .eql (.t 22) (xi 8)), xv 48 50]) (.cond 48 (.skip) (xr [xo 51 (.bin .eql (.t 22) (xi 9)), xv 48 51]))))) (.cond 48 (.seq (xr [xv 52 7, xv 53 7, xo 54 (.bin .add (.t 53) (xi 1)), xo 55 (.bin .rem (.t 54) (xi 4)), xv 56 10, xo 57 (.build [xz, xz, xz, xz, xz] [(0, 1, xi 6), (1, 1, .t 52), (3, 1, .t 55), (4, 1, .t 56)]), ⟨none, .store 5 (.t 6) (.t 57), none⟩]) (.ret)) (.seq (xr [xo 59 (.bin .eql (.t 22) (xi 10)), xv 58 59]) (.cond 58 (.seq (xr [xv 60 7, xv 61 8, xv 62 10, xo 63 (.build [xz, xz, xz, xz, xz] [(0, 1, xi 7), (1, 1, .t 60), (2, 1, .t 61), (4, 1, .t 62)]), ⟨none, .store 5 (.t 6) (.t 63), none⟩]) (.ret)) (.seq (xr [xo 65 (.bin .eql (.t 22) (xi 11)), xv 64 65]) (.cond 64 (.seq (xr [xv 66 7, xv 67 7, xo 68 (.bin .add (.t 67) (xi 1)), xo 69 (.bin .rem (.t 68) (xi 4)), xv 70 10, xo 71 (.build [xz, xz, xz, xz, xz] [(0, 1, xi 8), (1, 1, .t 66), (3, 1, .t 69), (4, 1, .t 70)]), ⟨none, .store 5 (.t 6) (.t 71), none⟩]) (.ret)) (.seq (xr [xo 73 (.bin .eql (.t 22) (xi 12)), xv 72 73]) (.cond 72 (.seq (.seq (xr [xv 74 0, xo 75 (.call 40 [true, false] [.t 74, xi 3])]) (.cond 75 (.seq (xr [xv 76 10, xo 77 (.build [xz, xz, xz, xz, xz] [(0, 1, xi 9), (4, 1, .t 76)]), ⟨none, .store 5 (.t 6) (.t 77), none⟩]) (.ret)) (.skip))) (.seq (xr [xv 78 0, xv 79 1, xo 80 (.call 39 [true, false] [.t 78, .t 79]), xo 81 (.build [xz, xz, xz, xz, xz] [(0, 1, xi 11), (4, 1, .t 80)]), ⟨none, .store 5 (.t 6) (.t 81), none⟩]) (.ret))) (.seq (xr [xo 83 (.bin .eql (.t 22) (xi 13)), xv 82 83]) (.cond 82 (.seq (xr [xv 84 8, xv 85 0, xv 86 1, xo 87 (.call 39 [true, false] [.t 85, .t 86]), xo 88 (.build [xz, xz, xz, xz, xz] [(0, 1, xi 12), (2, 1, .t 84), (4, 1, .t 87)]), ⟨none, .store 5 (.t 6) (.t 88), none⟩]) (.ret)) (.skip))))))))))))))))))) (.seq (xr [xv 89 8, xo 90 (.build [xz, xz, xz, xz, xz] [(0, 1, xi 10), (2, 1, .t 89)]), ⟨none, .store 5 (.t 6) (.t 90), none⟩]) (.ret)))))⟩
theorem c91 : chkC Try.prog num Try.f244.ntmps m91.body ((Try.f244.body).getD .skip) = true := by kernel_rfl
def m98 : MFn := ⟨10, [.t 4], .seq (xr [xo 4 (.mv (xi 0))]) (.seq (.seq (xr [xv 5 0, xv 6 1, xo 7 (.bin .gtr (.t 5) (.t 6))]) (.cond 7 (.seq (xr [xv 8 0, xv 4 8]) (.ret)) (.skip))) (.seq (xr [xv 9 1, xv 4 9]) (.ret)))⟩
theorem c98 : chkC Try.prog num Try.f292.ntmps m98.body ((Try.f292.body).getD .skip) = true := by kernel_rfl
def m168 : MFn := ⟨31, [.cell 2 2 true, .t 3], .seq (xr [xo 2 (.alloc [.nil, .nil]), xo 3 (.mv (.c (.nil)))]) (.seq (xr [xv 8 0, xo 9 (.call 37 [true] [.t 8]), xv 4 9]) (.seq (xr [xv 10 4, xo 11 (.call 55 [true] [.t 10]), xo 5 (.alloc [.nil, .nil]), ⟨none, .store 2 (.t 5) (.t 11), none⟩]) (.seq (xr [xo 12 (.mkSl [xz] 0 []), xv 6 12]) (.seq (.seq (xr [xo 7 (.mv (xi 0))]) (.blk 0 (.loop (.seq (.seq (xr [xv 13 7, xv 14 4, xv 15 0, xo 16 (.call 213 [false, false, false] [.t 15, xi 60, xi 120]), xo 17 (.call 39 [true, false] [.t 14, .t 16]), xo 18 (.bin .lss (.t 13) (.t 17))]) (.cond 18 (.skip) (.exit 0))) (.seq (.blk 1 (xr [xv 21 6, xv 22 4, xo 23 (.fad 1 (.t 5)), xo 24 (.load 1 false (.t 23)), xo 25 (.len (.t 24)), xo 26 (.call 39 [true, false] [.t 22, .t 25]), xo 27 (.mkSl [xz] 1 [(0, .t 26)]), xo 28 (.app 1 8 (.t 21) (.t 27)), xv 6 28])) (xr [xv 19 7, xo 20 (.bin .add (.t 19) (xi 1)), xv 7 20])))))) (.seq (xr [xo 29 (.load 2 true (.t 5)), xv 30 6, ⟨none, .store 2 (.t 2) (.t 29), none⟩, xv 3 30]) (.ret))))))⟩
theorem c168 : chkC Try.prog num Try.f38.ntmps m168.body ((Try.f38.body).getD .skip) = true := by kernel_rfl
def m180 : MFn := ⟨110, [.t 2], .seq (xr [xo 2 (.mv (.c (.bool false)))]) (.seq (.seq (xr [xv 21 0, xo 22 (.call 19 [false] [.t 21])]) (.cond 22 (.seq (xr [xo 2 (.mv (.c (.bool true)))]) (.ret)) (.skip))) (.seq (xr [xv 24 0, xo 25 (.call 168 [true] [.t 24]), xv 23 25, xo 26 (.ext (.t 23) 0), xo 27 (.ext (.t 23) 1), xo 3 (.alloc [.nil, .nil]), ⟨none, .store 2 (.t 3) (.t 26), none⟩, xv 4 27]) (.seq (xr [xo 29 (.load 2 true (.t 3)), xo 30 (.call 24 [false] [.t 29]), xv 28 30, xo 31 (.ext (.t 28) 0), xo 32 (.ext (.t 28) 1), xo 5 (.alloc [.nil, .nil, .nil]), ⟨none, .store 3 (.t 5) (.t 31), none⟩, xv 6 32]) (.seq (xr [xv 34 0, xo 35 (.call 181 [true] [.t 34]), xv 33 35, xo 36 (.ext (.t 33) 0), xo 37 (.ext (.t 33) 1), xo 38 (.ext (.t 33) 2), xo 7 (.alloc [.nil, .nil]), ⟨none, .store 2 (.t 7) (.t 36), none⟩, xv 8 37, xv 9 38]) (.seq (xr [xo 40 (.load 2 true (.t 7)), xv 41 8, xv 42 9, xo 43 (.call 182 [false, false, false] [.t 40, .t 41, .t 42]), xv 39 43, xo 44 (.ext (.t 39) 0), xo 45 (.ext (.t 39) 1), xv 10 44, xv 11 45]) (.seq (xr [xo 47 (.load 2 true (.t 7)), xv 48 8, xv 49 9, xo 50 (.call 183 [false, false, false] [.t 47, .t 48, .t 49]), xv 46 50, xo 51 (.ext (.t 46) 0), xo 52 (.ext (.t 46) 1), xv 12 51, xv 13 52]) (.seq (.seq (xr [xv 53 6, xo 54 (.un .«not» (.t 53)), xv 55 54, xg 56 (.mv (.t 11)) 55 false, xg 57 (.mv (.t 13)) 55 false, xg 58 (.eqB true (.t 56) (.t 57)) 55 false, xo 59 (.pick (.t 55) (.c (.bool true)) (.t 58)), xv 60 59, xg 61 (.mv (.t 10)) 60 false, xg 62 (.cvs (.t 61)) 60 false, xg 63 (.mv (.t 12)) 60 false, xg 64 (.cvs (.t 63)) 60 false, xg 65 (.bin .neq (.t 62) (.t 64)) 60 false, xo 66 (.pick (.t 60) (.c (.bool true)) (.t 65))]) (.cond 66 (.seq (xr [xo 2 (.mv (.c (.bool false)))]) (.ret)) (.skip))) (.seq (xr [xv 67 0, xo 68 (.call 184 [false, false] [.t 67, xi 1]), xv 69 4, xo 70 (.len (.t 69)), xo 71 (.bin .add (.t 70) (xi 1)), xo 72 (.bin .rem (.t 68) (.t 71)), xv 14 72]) (.seq (.dreg (.take 0 (xo 74 (.load 2 true (.t 3))) (.take 1 (xo 75 (.load 3 true (.t 5))) (.take 2 (xv 76 4) (.take 3 (xv 77 14) (.take 4 (xo 78 (.cut 1 (.t 76) none (some (.t 77)))) (.both 5 [0, 1, 4] (xo 79 (.call 25 [false, false, false] [.t 74, .t 75, .t 78])) (.take 6 (xv 73 79) (.take 7 (xo 80 (.ext (.t 73) 0)) (.take 8 (xo 81 (.ext (.t 73) 1)) (.only 9 [] (xo 15 (.alloc [.nil, .nil, .nil])) (.only 10 [0, 1, 2, 3, 4, 6, 7] ⟨none, .store 3 (.t 15) (.t 80), none⟩ (.only 11 [0, 1, 2, 3, 4, 6, 7, 8] (xv 16 81) (.done))))))) 9 [] (xo 15 (.alloc [.nil, .nil, .nil])) (.only 5 [0, 1, 4] (xo 79 (.call 25 [false, false, false] [.t 74, .t 75, .t 78])) (.only 6 [] (xv 73 79) (.take 7 (xo 80 (.ext (.t 73) 0)) (.take 8 (xo 81 (.ext (.t 73) 1)) (.only 10 [0, 1, 2, 3, 4, 7] ⟨none, .store 3 (.t 15) (.t 80), none⟩ (.only 11 [0, 1, 2, 3, 4, 7, 8] (xv 16 81) (.done)))))))))))))) (.seq (xr [xo 83 (.load 2 true (.t 3)), xo 84 (.load 3 true (.t 5)), xv 85 4, xo 86 (.call 25 [false, false, false] [.t 83, .t 84, .t 85]), xv 82 86, xo 87 (.ext (.t 82) 0), xo 88 (.ext (.t 82) 1), xo 17 (.alloc [.nil, .nil, .nil]), ⟨none, .store 3 (.t 17) (.t 87), none⟩, xv 18 88]) (.seq (.dreg (.take 0 (xo 90 (.load 2 true (.t 3))) (.take 1 (xo 91 (.load 2 true (.t 3))) (.take 2 (xo 92 (.load 3 true (.t 15))) (.take 4 (xv 94 4) (.take 5 (xv 95 14) (.take 6 (xo 96 (.cut 1 (.t 94) (some (.t 95)) none)) (.only 3 [1, 2] (xo 93 (.call 185 [false, false] [.t 91, .t 92])) (.only 7 [0, 6] (xo 97 (.call 182 [false, false, false] [.t 90, .t 93, .t 96])) (.only 8 [] (xv 89 97) (.take 9 (xo 98 (.ext (.t 89) 0)) (.take 10 (xo 99 (.ext (.t 89) 1)) (.only 11 [0, 1, 2, 4, 5, 6, 9] (xv 19 98) (.only 12 [0, 1, 2, 4, 5, 6, 9, 10] (xv 20 99) (.done))))))))))))))) (.seq (.dreg (.only 0 [] (xv 100 20) (.only 1 [] (xv 101 100) (.take 2 (xg 102 (.mv (.t 19)) 101 true) (.take 3 (xg 103 (.cvs (.t 102)) 101 true) (.take 4 (xg 104 (.load 2 true (.t 3)) 101 true) (.only 5 [] (xg 105 (.load 3 true (.t 17)) 101 true) (.only 6 [4] (xg 106 (.call 185 [false, false] [.t 104, .t 105]) 101 true) (.only 7 [] (xg 107 (.cvs (.t 106)) 101 true) (.only 8 [3] (xg 108 (.bin .eql (.t 103) (.t 107)) 101 true) (.only 9 [] (xo 109 (.pick (.t 101) (.t 108) (.c (.bool false)))) (.only 10 [2, 3, 4] (xv 2 109) (.done))))))))))))) (.ret)))))))))))))⟩
theorem c180 : chkC Try.prog num Try.f9.ntmps m180.body ((Try.f9.body).getD .skip) = true := by kernel_rfl
def m181 : MFn := ⟨32, [.cell 2 2 true, .t 3, .t 4], .seq (xr [xo 2 (.alloc [.nil, .nil]), xo 3 (.mv (.c (.nil))), xo 4 (.mv (.c (.nil)))]) (.seq (xr [xv 10 0, xo 11 (.call 37 [true] [.t 10]), xv 5 11]) (.seq (xr [xv 13 5, xo 14 (.call 237 [true] [.t 13]), xv 12 14, xo 15 (.ext (.t 12) 0), xo 16 (.ext (.t 12) 1), xo 6 (.alloc [.nil, .nil]), ⟨none, .store 2 (.t 6) (.t 15), none⟩, xv 7 16]) (.seq (xr [xo 17 (.mkSl [xz] 0 []), xv 8 17]) (.seq (.seq (xr [xo 9 (.mv (xi 0))]) (.blk 0 (.loop (.seq (.seq (xr [xv 18 9, xv 19 5, xo 20 (.call 39 [true, false] [.t 19, xi 20]), xo 21 (.bin .lss (.t 18) (.t 20))]) (.cond 21 (.skip) (.exit 0))) (.seq (.blk 1 (xr [xv 24 8, xv 25 5, xo 26 (.call 39 [true, false] [.t 25, xi 5]), xo 27 (.mkSl [xz] 1 [(0, .t 26)]), xo 28 (.app 1 8 (.t 24) (.t 27)), xv 8 28])) (xr [xv 22 9, xo 23 (.bin .add (.t 22) (xi 1)), xv 9 23])))))) (.seq (xr [xo 29 (.load 2 true (.t 6)), xv 30 7, xv 31 8, ⟨none, .store 2 (.t 2) (.t 29), none⟩, xv 3 30, xv 4 31]) (.ret))))))⟩
theorem c181 : chkC Try.prog num Try.f51.ntmps m181.body ((Try.f51.body).getD .skip) = true := by kernel_rfl
def m182 : MFn := ⟨28, [.t 6, .t 7], .seq (xr [xo 3 (.box (.t 0)), xo 6 (.mv (.c (.nil))), xo 7 (.mv (.c (.bool false)))]) (.seq (xr [xo 13 (.load 2 true (.t 3)), xv 14 1, xo 15 (.call 154 [false, false] [.t 13, .t 14]), xv 12 15, xo 16 (.ext (.t 12) 0), xo 17 (.ext (.t 12) 1), xo 8 (.alloc [.nil, .nil, .nil]), ⟨none, .store 3 (.t 8) (.t 16), none⟩, xv 9 17]) (.seq (.seq (xr [xv 18 9, xo 19 (.un .«not» (.t 18))]) (.cond 19 (.seq (xr [xo 6 (.mv (.c (.nil))), xo 7 (.mv (.c (.bool false)))]) (.ret)) (.skip))) (.seq (xr [xo 21 (.load 2 true (.t 3)), xo 22 (.load 3 true (.t 8)), xv 23 2, xo 24 (.call 25 [false, false, false] [.t 21, .t 22, .t 23]), xv 20 24, xo 25 (.ext (.t 20) 0), xo 26 (.ext (.t 20) 1), xo 10 (.alloc [.nil, .nil, .nil]), ⟨none, .store 3 (.t 10) (.t 25), none⟩, xv 11 26]) (.seq (xr [xo 27 (.call 198 [false] [.t 10]), xv 6 27, xo 7 (.mv (.c (.bool true)))]) (.ret)))))⟩
theorem c182 : chkC Try.prog num Try.f52.ntmps m182.body ((Try.f52.body).getD .skip) = true := by kernel_rfl
def m183 : MFn := ⟨31, [.t 6, .t 7], .seq (xr [xo 3 (.box (.t 0)), xo 6 (.mv (.c (.nil))), xo 7 (.mv (.c (.bool false)))]) (.seq (xr [xo 13 (.load 2 true (.t 3)), xv 14 1, xo 15 (.call 153 [false, false] [.t 13, .t 14]), xv 12 15, xo 16 (.ext (.t 12) 0), xo 17 (.ext (.t 12) 1), xo 8 (.alloc [.nil, .nil, .nil]), ⟨none, .store 3 (.t 8) (.t 16), none⟩, xv 9 17]) (.seq (.seq (xr [xv 18 9, xo 19 (.un .«not» (.t 18))]) (.cond 19 (.seq (xr [xo 20 (.mkSl [.int .u8 0] 0 []), xv 6 20, xo 7 (.mv (.c (.bool false)))]) (.ret)) (.skip))) (.seq (xr [xo 22 (.load 2 true (.t 3)), xo 23 (.load 3 true (.t 8)), xv 24 2, xo 25 (.call 145 [false, false, false] [.t 22, .t 23, .t 24]), xv 21 25, xo 26 (.ext (.t 21) 0), xo 27 (.ext (.t 21) 1), xo 10 (.alloc [.nil, .nil, .nil]), ⟨none, .store 3 (.t 10) (.t 26), none⟩, xv 11 27]) (.seq (xr [xo 28 (.load 2 true (.t 3)), xo 29 (.load 3 true (.t 10)), xo 30 (.call 194 [false, false] [.t 28, .t 29]), xv 6 30, xo 7 (.mv (.c (.bool true)))]) (.ret)))))⟩
theorem c183 : chkC Try.prog num Try.f53.ntmps m183.body ((Try.f53.body).getD .skip) = true := by kernel_rfl
def m184 : MFn := ⟨20, [.t 4], .seq (xr [xo 4 (.mv (xi 0))]) (.seq (.seq (xr [xv 5 1, xv 6 0, xo 7 (.len (.t 6)), xo 8 (.bin .lss (.t 5) (.t 7))]) (.cond 8 (.seq (xr [xv 9 0, xv 10 1, xo 11 (.iad 1 (.t 9) (.t 10)), xo 12 (.load 1 false (.t 11)), xo 13 (.cvi .i64 (.t 12)), xv 4 13]) (.ret)) (.skip))) (.seq (xr [xv 14 1, xo 15 (.bin .mul (.t 14) (xi 7)), xv 16 0, xo 17 (.len (.t 16)), xo 18 (.bin .add (.t 15) (.t 17)), xo 19 (.bin .rem (.t 18) (xi 256)), xv 4 19]) (.ret)))⟩
theorem c184 : chkC Try.prog num Try.f54.ntmps m184.body ((Try.f54.body).getD .skip) = true := by kernel_rfl
def m185 : MFn := ⟨10, [.t 4], .seq (xr [xo 2 (.box (.t 0)), xo 3 (.box (.t 1)), xo 4 (.mv (.c (.nil)))]) (.seq (.seq (xr [xo 5 (.load 2 true (.t 2)), xo 6 (.load 3 true (.t 3)), xo 7 (.call 50 [false, false] [.t 5, .t 6]), xo 8 (.un .«not» (.t 7))]) (.cond 8 (.seq (xr [xo 4 (.mv (.c (.nil)))]) (.ret)) (.skip))) (.seq (xr [xo 9 (.call 198 [false] [.t 3]), xv 4 9]) (.ret)))⟩
theorem c185 : chkC Try.prog num Try.f55.ntmps m185.body ((Try.f55.body).getD .skip) = true := by kernel_rfl
def m213 : MFn := ⟨18, [.t 6], .seq (xr [xo 6 (.mv (xi 0))]) (.seq (xr [xv 8 1, xv 9 0, xo 10 (.len (.t 9)), xo 11 (.bin .quo (.t 10) (xi 4)), xo 12 (.bin .add (.t 8) (.t 11)), xv 7 12]) (.seq (.seq (xr [xv 13 7, xv 14 2, xo 15 (.bin .gtr (.t 13) (.t 14))]) (.cond 15 (.seq (xr [xv 16 2, xv 6 16]) (.ret)) (.skip))) (.seq (xr [xv 17 7, xv 6 17]) (.ret))))⟩
theorem c213 : chkC Try.prog num Try.f113.ntmps m213.body ((Try.f113.body).getD .skip) = true := by kernel_rfl
def m237 : MFn := ⟨46, [.cell 2 2 true, .t 3], .seq (xr [xo 2 (.alloc [.nil, .nil]), xo 3 (.mv (.c (.nil)))]) (.seq (xr [xv 8 0, xo 9 (.call 288 [true] [.t 8]), xv 7 9, xo 10 (.ext (.t 7) 0), xo 11 (.ext (.t 7) 1), xo 4 (.alloc [.nil, .nil]), xo 5 (.alloc [.nil, .nil, .nil]), ⟨none, .store 2 (.t 4) (.t 10), none⟩, ⟨none, .store 3 (.t 5) (.t 11), none⟩]) (.seq (xr [xo 12 (.load 2 true (.t 4)), xo 13 (.load 3 true (.t 5)), xo 14 (.call 194 [false, false] [.t 12, .t 13]), xv 6 14]) (.seq (.seq (xr [xv 15 0, xo 16 (.call 39 [true, false] [.t 15, xi 6])]) (.blk 0 (.seq (xr [xo 18 (.bin .eql (.t 16) (xi 0)), xv 17 18]) (.cond 17 (.seq (.dreg (.take 0 (xo 19 (.load 2 true (.t 4))) (.take 1 (xv 20 6) (.take 2 (xv 21 0) (.only 3 [] (xv 22 6) (.only 4 [] (xo 23 (.len (.t 22))) (.only 5 [] (xo 24 (.bin .add (.t 23) (xi 1))) (.only 6 [2] (xo 25 (.call 39 [true, false] [.t 21, .t 24])) (.take 7 (xo 26 (.cut 1 (.t 20) none (some (.t 25)))) (.only 8 [0] ⟨none, .store 2 (.t 2) (.t 19), none⟩ (.only 9 [0, 1, 2, 7] (xv 3 26) (.done)))))))))))) (.ret)) (.seq (xr [xo 28 (.bin .eql (.t 16) (xi 1)), xv 27 28]) (.cond 27 (.seq (.dreg (.take 0 (xo 29 (.load 2 true (.t 4))) (.take 1 (xv 30 6) (.only 2 [] (xo 31 (.mkSl [.int .u8 0] 1 [(0, .c (.int .u8 0))])) (.only 3 [1] (xo 32 (.app 1 1 (.t 30) (.t 31))) (.only 4 [0] ⟨none, .store 2 (.t 2) (.t 29), none⟩ (.only 5 [0, 1] (xv 3 32) (.done)))))))) (.ret)) (.seq (xr [xo 34 (.bin .eql (.t 16) (xi 2)), xv 33 34]) (.cond 33 (.seq (xr [xv 35 6, xo 36 (.len (.t 35)), xo 37 (.bin .gtr (.t 36) (xi 8))]) (.cond 37 (xr [xv 38 6, xv 39 0, xo 40 (.mkSl [xz] 4 [(0, xi 0), (1, xi 5), (2, xi 24), (3, xi 255)]), xo 41 (.call 56 [true, false] [.t 39, .t 40]), xo 42 (.cvi .u8 (.t 41)), xo 43 (.iad 1 (.t 38) (xi 8)), ⟨none, .store 1 (.t 43) (.t 42), none⟩]) (.skip))) (.skip))))))))) (.seq (xr [xo 44 (.load 2 true (.t 4)), xv 45 6, ⟨none, .store 2 (.t 2) (.t 44), none⟩, xv 3 45]) (.ret)))))⟩
theorem c237 : chkC Try.prog num Try.f147.ntmps m237.body ((Try.f147.body).getD .skip) = true := by kernel_rfl
def m288 : MFn := ⟨41, [.cell 2 2 true, .cell 3 3 true], .seq (xr [xo 2 (.alloc [.nil, .nil]), xo 3 (.alloc [.nil, .nil, .nil])]) (.seq (xr [xv 11 0, xo 12 (.call 55 [true] [.t 11]), xo 4 (.alloc [.nil, .nil]), ⟨none, .store 2 (.t 4) (.t 12), none⟩]) (.seq (xr [xo 14 (.load 2 true (.t 4)), xo 15 (.call 45 [false] [.t 14]), xv 13 15, xo 16 (.ext (.t 13) 0), xo 17 (.ext (.t 13) 1), xo 5 (.alloc [.nil, .nil, .nil]), ⟨none, .store 3 (.t 5) (.t 16), none⟩, xv 6 17]) (.seq (xr [xv 18 0, xo 19 (.call 39 [true, false] [.t 18, xi 60]), xv 7 19]) (.seq (.seq (xr [xo 8 (.mv (xi 0))]) (.blk 0 (.loop (.seq (.seq (xr [xv 20 8, xv 21 7, xo 22 (.bin .lss (.t 20) (.t 21))]) (.cond 22 (.skip) (.exit 0))) (.seq (.blk 1 (.seq (.dreg (.take 0 (xo 26 (.load 2 true (.t 4))) (.take 1 (xo 27 (.load 3 true (.t 5))) (.take 2 (xv 28 0) (.take 3 (xo 29 (.fad 1 (.t 4))) (.take 4 (xo 30 (.load 1 false (.t 29))) (.take 5 (xo 31 (.len (.t 30))) (.both 6 [2, 5] (xo 32 (.call 39 [true, false] [.t 28, .t 31])) (.both 7 [0, 1] (xo 33 (.call 46 [false, false, false] [.t 26, .t 27, .t 32])) (.take 8 (xv 25 33) (.take 9 (xo 34 (.ext (.t 25) 0)) (.take 10 (xo 35 (.ext (.t 25) 1)) (.only 11 [] (xo 9 (.alloc [.nil, .nil, .nil])) (.only 12 [0, 1, 2, 3, 4, 5, 8, 9] ⟨none, .store 3 (.t 9) (.t 34), none⟩ (.only 13 [0, 1, 2, 3, 4, 5, 8, 9, 10] (xv 10 35) (.done))))))) 11 [] (xo 9 (.alloc [.nil, .nil, .nil])) (.only 7 [0, 1] (xo 33 (.call 46 [false, false, false] [.t 26, .t 27, .t 32])) (.only 8 [] (xv 25 33) (.take 9 (xo 34 (.ext (.t 25) 0)) (.take 10 (xo 35 (.ext (.t 25) 1)) (.only 12 [0, 1, 2, 3, 4, 5, 9] ⟨none, .store 3 (.t 9) (.t 34), none⟩ (.only 13 [0, 1, 2, 3, 4, 5, 9, 10] (xv 10 35) (.done)))))))) 11 [] (xo 9 (.alloc [.nil, .nil, .nil])) (.only 6 [2, 5] (xo 32 (.call 39 [true, false] [.t 28, .t 31])) (.only 7 [0, 1] (xo 33 (.call 46 [false, false, false] [.t 26, .t 27, .t 32])) (.only 8 [] (xv 25 33) (.take 9 (xo 34 (.ext (.t 25) 0)) (.take 10 (xo 35 (.ext (.t 25) 1)) (.only 12 [0, 1, 2, 3, 4, 5, 9] ⟨none, .store 3 (.t 9) (.t 34), none⟩ (.only 13 [0, 1, 2, 3, 4, 5, 9, 10] (xv 10 35) (.done)))))))))))))))) (.seq (xr [xv 36 10, xo 37 (.bin .eql (.t 36) (xi 0))]) (.cond 37 (xr [xo 38 (.load 3 true (.t 9)), ⟨none, .store 3 (.t 5) (.t 38), none⟩]) (.skip))))) (xr [xv 23 8, xo 24 (.bin .add (.t 23) (xi 1)), xv 8 24])))))) (.seq (.dreg (.take 0 (xo 39 (.load 2 true (.t 4))) (.take 1 (xo 40 (.load 3 true (.t 5))) (.only 2 [0] ⟨none, .store 2 (.t 2) (.t 39), none⟩ (.only 3 [0, 1] ⟨none, .store 3 (.t 3) (.t 40), none⟩ (.done)))))) (.ret))))))⟩
theorem c288 : chkC Try.prog num Try.f230.ntmps m288.body ((Try.f230.body).getD .skip) = true := by kernel_rfl
open Nat renaming reduceAdd → qA, reduceMul → qB, reduceEqDiff → qC, reduceBEq → qD
open Int renaming reduceToNat → qE, reduceEq → qF, reduceLT → qG, reduceLE → qH
open List renaming getD_eq_getElem?_getD → gD

theorem getFold_in {l : List Int} (hl : l.length = 8) (hb : ∀ x ∈ l, isByte x) (h0 : l.getD 0 0 ≤ 127) : 0 ≤ getFold l ∧ getFold l < 2 ^ 63 := by
  match l, hl with
  | [x1, x2, x3, x4, x5, x6, x7, x8], _ =>
    simp only [List.getD_cons_zero] at h0
    have b1 := hb x1 (by simp)
    have b2 := hb x2 (by simp)
    have b3 := hb x3 (by simp)
    have b4 := hb x4 (by simp)
    have b5 := hb x5 (by simp)
    have b6 := hb x6 (by simp)
    have b7 := hb x7 (by simp)
    have b8 := hb x8 (by simp)
    unfold getFold
    simp only [List.foldl_cons, List.foldl_nil]
    unfold isByte at b1 b2 b3 b4 b5 b6 b7 b8
    rw [addByte_eq (n := 0) (by omega) (by omega) b1]
    rw [addByte_eq (n := 0 * 256 + x1) (by omega) (by omega) b2]
    rw [addByte_eq (n := (0 * 256 + x1) * 256 + x2) (by omega) (by omega) b3]
    rw [addByte_eq (n := ((0 * 256 + x1) * 256 + x2) * 256 + x3) (by omega) (by omega) b4]
    rw [addByte_eq (n := (((0 * 256 + x1) * 256 + x2) * 256 + x3) * 256 + x4) (by omega) (by omega) b5]
    rw [addByte_eq (n := ((((0 * 256 + x1) * 256 + x2) * 256 + x3) * 256 + x4) * 256 + x5) (by omega) (by omega) b6]
    rw [addByte_eq (n := (((((0 * 256 + x1) * 256 + x2) * 256 + x3) * 256 + x4) * 256 + x5) * 256 + x6) (by omega) (by omega) b7]
    rw [addByte_eq (n := ((((((0 * 256 + x1) * 256 + x2) * 256 + x3) * 256 + x4) * 256 + x5) * 256 + x6) * 256 + x7) (by omega) (by omega) b8]
    omega
theorem rdNum_i64 {b : List Int} (hb : ∀ x ∈ b, isByte x) (r : Rd) : i64 (rdNum b r).1 := by
  unfold rdNum
  split
  · exact ⟨by simp only; omega, by simp only; omega⟩
  · unfold getInt
    split
    · exact ⟨by simp only; omega, by simp only; omega⟩
    · rename_i hbad
      obtain ⟨h0, h1, h2, h3⟩ := getBad_iff.1 (by simpa using hbad)
      have hl : ((b.drop (r.a + 1).toNat).take 8).length = 8 := by rw [List.length_take, List.length_drop]; omega
      have hg : ((b.drop (r.a + 1).toNat).take 8).getD 0 0 = b.getD (r.a + 1).toNat 0 := by simp [List.getD_eq_getElem?_getD]
      obtain ⟨f0, f1⟩ := getFold_in hl (fun x hx => hb x (List.mem_of_mem_drop (List.mem_of_mem_take hx))) (by rw [hg]; exact h3)
      unfold i64
      simp only
      split
      · rw [wrap64 (by omega) (by omega)]; omega
      · omega

/-- Once bad, bad for ever. -/
theorem rdNum_bad {b : List Int} {r : Rd} (h : r.bad = true) : (rdNum b r).2.bad = true := by
  unfold rdNum
  rw [if_pos (.inl h)]
theorem rdNum_good {b : List Int} {r : Rd} (h : (rdNum b r).2.bad = false) : r.bad = false := by
  cases hr : r.bad with
  | false => rfl
  | true => rw [rdNum_bad hr] at h; simp at h
theorem rdMany_good {b : List Int} {r : Rd} : ∀ n, (rdMany b n r).2.bad = false → r.bad = false
  | 0, h => h
  | n + 1, h => rdMany_good n (rdNum_good h)
theorem rdCount_good {b : List Int} {r : Rd} {most : Int} (h : (rdCount b r most).2.bad = false) : rdCount b r most = rdNum b r ∧ r.bad = false ∧ 0 ≤ (rdNum b r).1 ∧ (rdNum b r).1 ≤ most := by
  unfold rdCount at h ⊢
  split at h
  · rename_i hw
    rw [if_pos hw]
    rw [within_iff] at hw
    exact ⟨rfl, rdNum_good h, hw.1, hw.2⟩
  · simp at h
theorem rdSome_snoc {b : List Int} : ∀ (n : Nat) (r : Rd), (rdMany b (n + 1) r).2.bad = false → rdMany b (n + 1) r = ((rdNum b r).1 :: (rdMany b n (rdNum b r).2).1, (rdMany b n (rdNum b r).2).2)
  | 0, r, _ => by simp [rdMany]
  | n + 1, r, h => by
    have h1 : (rdMany b (n + 1) r).2.bad = false := rdNum_good h
    have ih := rdSome_snoc n r h1
    have e : rdMany b (n + 1 + 1) r = ((rdMany b (n + 1) r).1 ++ [(rdNum b (rdMany b (n + 1) r).2).1], (rdNum b (rdMany b (n + 1) r).2).2) := rfl
    rw [e, ih]
    simp only [rdMany, List.cons_append]
theorem rdSome_eq {b : List Int} : ∀ (n : Nat) (r : Rd), (rdMany b n r).2.bad = false → rdSome b n r = rdMany b n r
  | 0, r, _ => rfl
  | n + 1, r, h => by
    have hr := rdMany_good (n + 1) h
    have e := rdSome_snoc n r h
    rw [e] at h ⊢
    simp only [rdSome, hr, Bool.false_eq_true, if_false]
    rw [rdSome_eq n _ h]
theorem rdSeq_good {α : Type} {f : Nat → Rd → α × Rd} (hf : ∀ i r, (f i r).2.bad = false → r.bad = false) {r : Rd} : ∀ n, (rdSeq f n r).2.bad = false → r.bad = false
  | 0, h => h
  | n + 1, h => rdSeq_good hf n (hf n _ h)
theorem rdSeq_congr {α : Type} {f g : Nat → Rd → α × Rd} (hf : ∀ i r, (f i r).2.bad = false → r.bad = false) {N : Nat} (hg : ∀ i r, i < N → (f i r).2.bad = false → g i r = f i r) {r : Rd} : ∀ n, n ≤ N → (rdSeq f n r).2.bad = false → rdSeq g n r = rdSeq f n r
  | 0, _, _ => rfl
  | n + 1, hn, h => by
    have h1 := hf n _ h
    have ih := rdSeq_congr hf hg n (by omega) h1
    simp only [rdSeq] at h ⊢
    rw [ih, hg n _ (by omega) h]
theorem rdThread_good {b : List Int} {r : Rd} (h : (rdThread b r).2.bad = false) : r.bad = false := rdNum_good (rdNum_good (rdMany_good 4 h))
theorem rdThread_eq {b : List Int} {r : Rd} (h : (rdThread b r).2.bad = false) : rdThreadS b r = rdThread b r := by
  unfold rdThreadS rdThread
  rw [rdSome_eq 4 _ h]
theorem rdChan_good {b : List Int} {cap : Int} {r : Rd} (h : (rdChan b cap r).2.bad = false) : r.bad = false := (rdCount_good (rdMany_good _ (rdCount_good h).2.1)).2.1
theorem rdChan_eq {b : List Int} {cap : Int} {r : Rd} (h : (rdChan b cap r).2.bad = false) : rdChanS b cap r = rdChan b cap r := by
  obtain ⟨c1, c2, c3, c4⟩ := rdCount_good h
  obtain ⟨d1, d2, d3, d4⟩ := rdCount_good (rdMany_good _ c2)
  unfold rdChanS rdChan
  rw [d1] at c1 c2 ⊢
  rw [if_pos (by omega), rdSome_eq _ _ c2, c1]
theorem rdNote_good {b : List Int} {r : Rd} (h : (rdNote b r).2.bad = false) : r.bad = false := rdNum_good (rdNum_good h)
theorem rdSeq_cons {α : Type} {f : Rd → α × Rd} : ∀ (n : Nat) (r : Rd), rdSeq (fun _ => f) (n + 1) r = ((f r).1 :: (rdSeq (fun _ => f) n (f r).2).1, (rdSeq (fun _ => f) n (f r).2).2)
  | 0, r => by simp [rdSeq]
  | n + 1, r => by
    have ih := rdSeq_cons (f := f) n r
    have e : rdSeq (fun _ => f) (n + 1 + 1) r = ((rdSeq (fun _ => f) (n + 1) r).1 ++ [(f (rdSeq (fun _ => f) (n + 1) r).2).1], (f (rdSeq (fun _ => f) (n + 1) r).2).2) := rfl
    rw [e, ih]
    simp only [rdSeq, List.cons_append]
theorem rdNotesS_eq {b : List Int} : ∀ (n : Nat) (r : Rd), (rdSeq (fun _ => rdNote b) n r).2.bad = false → rdNotesS b n r = rdSeq (fun _ => rdNote b) n r
  | 0, r, _ => rfl
  | n + 1, r, h => by
    have hr := rdSeq_good (f := fun _ => rdNote b) (fun _ _ h => rdNote_good h) (n + 1) h
    rw [rdSeq_cons] at h ⊢
    simp only [rdNotesS, hr, Bool.false_eq_true, if_false]
    rw [rdNotesS_eq n _ h]

theorem spec_of_impl {p : Prog} {b : List Int} (hok : progOk p = true) (h : (implParse p b).2.bad = false) : specParse p b = implParse p b := by
  have hn : sourceNew p = (⟨List.replicate p.bods.length thread0, p.caps.map chan0, []⟩, true) := by unfold sourceNew; rw [if_pos hok]; rfl
  change (parseN p b).2.bad = false at h
  have h2 : (rdCount b (parseC p b).2 4000).2.bad = false := rdSeq_good (f := fun _ => rdNote b) (fun _ _ h => rdNote_good h) _ h
  obtain ⟨c1, c2, c3, c4⟩ := rdCount_good h2
  have h3 : (parseT p b).2.bad = false := rdSeq_good (f := fun i => rdChan b (p.caps.getD i 0)) (fun _ _ h => rdChan_good h) _ c2
  have eT : parseTS p b = parseT p b := by
    unfold parseTS parseT
    rw [hn]
    simp only [List.length_replicate, Bool.not_true]
    exact rdSeq_congr (f := fun _ => rdThread b) (g := fun _ => rdThreadS b) (N := p.bods.length) (fun _ _ h => rdThread_good h) (fun _ _ _ h => rdThread_eq h) _ (Nat.le_refl _) h3
  have eC : parseCS p b = parseC p b := by
    unfold parseCS parseC
    rw [hn, eT]
    simp only [List.length_map]
    refine rdSeq_congr (f := fun i => rdChan b (p.caps.getD i 0)) (N := p.caps.length) (fun _ _ h => rdChan_good h) (fun i r hi h => ?_) _ (Nat.le_refl _) c2
    have : (p.caps.map chan0).getD i default = chan0 (p.caps.getD i 0) := by simp [List.getD_eq_getElem?_getD, hi]
    rw [this]
    exact rdChan_eq h
  have eN : parseNS p b = parseN p b := by
    unfold parseNS parseN
    rw [eC, c1, if_pos (by omega)]
    unfold parseN at h
    rw [c1] at h
    exact rdNotesS_eq _ _ h
  unfold specParse implParse
  rw [eT, eC, eN]

/-- A reader f reads x off these bytes. -/
def Rds {α : Type} (f : List Int → Rd → α × Rd) (B : List Int) (x : α) : Prop := ∀ b pre rest, b = pre ++ (B ++ rest) → f b ⟨pre.length, false⟩ = (x, ⟨((pre.length + B.length : Nat) : Int), false⟩)
theorem rds_num {n : Int} (h : i64 n) : Rds rdNum (putInt n) n := by
  intro b pre rest hb
  have hg := getInt_put pre rest h
  unfold rdNum
  rw [hb, hg]
  simp
theorem rds_many {l : List Int} (h : ∀ x ∈ l, i64 x) : ∀ n, n ≤ l.length → Rds (fun b => rdMany b n) (putAll (l.take n)) (l.take n)
  | 0, _ => fun b pre rest hb => by simp [rdMany, putAll]
  | n + 1, hn => fun b pre rest hb => by
    have hx := h _ (getD_mem l n 0 (by omega))
    have e := putAll_next l n (by omega)
    have h1 := rds_many h n (by omega) b pre (putInt (l.getD n 0) ++ rest) (by rw [hb, e]; simp)
    have h2 := rds_num hx b (pre ++ putAll (l.take n)) rest (by rw [hb, e]; simp)
    simp only [rdMany]
    simp only at h1
    rw [h1]
    simp only
    rw [List.length_append] at h2
    rw [h2, take_snoc l 0 n (by omega), ← take_snoc l 0 n (by omega), e]
    simp [take_snoc l 0 n (by omega), Nat.add_assoc]
theorem rds_all {l : List Int} (h : ∀ x ∈ l, i64 x) {n : Nat} (hn : n = l.length) : Rds (fun b => rdMany b n) (putAll l) l := by
  have := rds_many h l.length (Nat.le_refl _)
  rw [List.take_length] at this
  rw [hn]
  exact this
theorem rds_count {n most : Int} (h : i64 n) (h0 : 0 ≤ n) (h1 : n ≤ most) : Rds (fun b r => rdCount b r most) (putInt n) n := by
  intro b pre rest hb
  have := rds_num h b pre rest hb
  simp only [rdCount]
  rw [this]
  rw [if_pos (by rw [within_iff]; exact ⟨h0, h1⟩)]
theorem rds_note {n : Note} (h1 : i64 n.who) (h2 : i64 n.v) : Rds rdNote (ntBytes n) n := by
  intro b pre rest hb
  have e : ntBytes n = putInt n.who ++ putInt n.v := by simp [ntBytes, putAll]
  have g1 := rds_num h1 b pre (putInt n.v ++ rest) (by rw [hb, e]; simp)
  have g2 := rds_num h2 b (pre ++ putInt n.who) rest (by rw [hb, e]; simp)
  rw [List.length_append] at g2
  unfold rdNote
  rw [g1]
  simp only
  rw [g2, e]
  simp [Nat.add_assoc]
theorem rds_thread {t : Thread} (h1 : i64 t.at_) (h2 : i64 t.st) (h3 : ∀ x ∈ t.regs, i64 x) (h4 : t.regs.length = 4) : Rds rdThread (thBytes t) t := by
  intro b pre rest hb
  have e : thBytes t = putInt t.at_ ++ (putInt t.st ++ putAll t.regs) := by simp [thBytes, putAll]
  have g1 := rds_num h1 b pre (putInt t.st ++ (putAll t.regs ++ rest)) (by rw [hb, e]; simp)
  have g2 := rds_num h2 b (pre ++ putInt t.at_) (putAll t.regs ++ rest) (by rw [hb, e]; simp)
  have g3 := rds_all h3 h4.symm b (pre ++ (putInt t.at_ ++ putInt t.st)) rest (by rw [hb, e]; simp)
  simp only [List.length_append, putInt_length] at g1 g2 g3
  unfold rdThread
  rw [g1]
  simp only
  rw [g2]
  simp only
  rw [show pre.length + 9 + 9 = pre.length + (9 + 9) from rfl, g3, e]
  simp [putAll_length, Nat.add_assoc]
  omega
theorem rds_chan {c : Chan} (h1 : ∀ x ∈ c.list, i64 x) (h2 : c.list.length ≤ 4) : Rds (fun b => rdChan b c.cap) (chBytes c) c := by
  intro b pre rest hb
  have e : chBytes c = putInt (c.list.length : Int) ++ (putAll c.list ++ putInt (numb c.closed)) := by simp [chBytes, putAll]
  have n1 : i64 (c.list.length : Int) := ⟨by omega, by omega⟩
  have n2 : i64 (numb c.closed) ∧ 0 ≤ numb c.closed ∧ numb c.closed ≤ 1 := by unfold numb; split <;> exact ⟨⟨by omega, by omega⟩, by omega, by omega⟩
  have g1 := rds_count n1 (by omega) (show (c.list.length : Int) ≤ 4 by omega) b pre (putAll c.list ++ (putInt (numb c.closed) ++ rest)) (by rw [hb, e]; simp)
  have g2 := rds_all h1 (n := c.list.length) rfl b (pre ++ putInt (c.list.length : Int)) (putInt (numb c.closed) ++ rest) (by rw [hb, e]; simp)
  have g3 := rds_count n2.1 n2.2.1 n2.2.2 b (pre ++ (putInt (c.list.length : Int) ++ putAll c.list)) rest (by rw [hb, e]; simp)
  simp only [List.length_append, putInt_length, putAll_length] at g1 g2 g3
  have hn : decide (numb c.closed = 1) = c.closed := by unfold numb; cases c.closed <;> rfl
  rw [← Nat.add_assoc] at g3
  simp only [rdChan, g1, Int.toNat_natCast, g2, g3, hn, e, List.length_append, putInt_length, putAll_length]
  refine Prod.ext rfl (congrArg (fun n => Rd.mk n false) ?_)
  omega
theorem rds_seq {α : Type} {f : List Int → Nat → Rd → α × Rd} {g : α → List Int} (d : α) {l : List α} (h : ∀ i, i < l.length → Rds (fun b => f b i) (g (l.getD i d)) (l.getD i d)) : ∀ n, n ≤ l.length → Rds (fun b => rdSeq (f b) n) ((l.take n).flatMap g) (l.take n)
  | 0, _ => fun b pre rest hb => by simp [rdSeq]
  | n + 1, hn => fun b pre rest hb => by
    have e := flat_take g d l n (by omega)
    have h1 := rds_seq d h n (by omega) b pre (g (l.getD n d) ++ rest) (by rw [hb, e]; simp)
    have h2 := h n (by omega) b (pre ++ (l.take n).flatMap g) rest (by rw [hb, e]; simp)
    simp only [rdSeq]
    simp only at h1 h2
    rw [h1]
    simp only
    rw [List.length_append] at h2
    rw [h2, e]
    simp [take_snoc l d n (by omega), Nat.add_assoc]
theorem rds_list {α : Type} {f : List Int → Nat → Rd → α × Rd} {g : α → List Int} (d : α) {l : List α} {n : Nat} (hn : n = l.length) (h : ∀ i, i < l.length → Rds (fun b => f b i) (g (l.getD i d)) (l.getD i d)) : Rds (fun b => rdSeq (f b) n) (l.flatMap g) l := by
  have := rds_seq d h l.length (Nat.le_refl _)
  rw [List.take_length] at this
  rw [hn]
  exact this

/-- All numbers of a source are whole numbers of 64 bits. -/
structure SrcIn (s : Source) : Prop where
  ths : ∀ t ∈ s.ths, i64 t.at_ ∧ i64 t.st ∧ ∀ x ∈ t.regs, i64 x
  chs : ∀ c ∈ s.chs, ∀ x ∈ c.list, i64 x
  tr : ∀ n ∈ s.tr, i64 n.who ∧ i64 n.v
theorem rdSome_i64 {b : List Int} (hb : ∀ x ∈ b, isByte x) : ∀ (n : Nat) (r : Rd), ∀ x ∈ (rdSome b n r).1, i64 x
  | 0, r, x, hx => by simp [rdSome] at hx
  | n + 1, r, x, hx => by
    unfold rdSome at hx
    split at hx
    · simp at hx
    · simp only [List.mem_cons] at hx
      rcases hx with rfl | hx
      · exact rdNum_i64 hb r
      · exact rdSome_i64 hb n _ x hx
theorem rdNotesS_i64 {b : List Int} (hb : ∀ x ∈ b, isByte x) : ∀ (n : Nat) (r : Rd), ∀ x ∈ (rdNotesS b n r).1, i64 x.who ∧ i64 x.v
  | 0, r, x, hx => by simp [rdNotesS] at hx
  | n + 1, r, x, hx => by
    unfold rdNotesS at hx
    split at hx
    · simp at hx
    · simp only [List.mem_cons] at hx
      rcases hx with rfl | hx
      · exact ⟨rdNum_i64 hb r, rdNum_i64 hb _⟩
      · exact rdNotesS_i64 hb n _ x hx
theorem rdSeq_every {α : Type} {f : Nat → Rd → α × Rd} {Q : α → Prop} (hq : ∀ i r, Q (f i r).1) (r : Rd) : ∀ n, ∀ x ∈ (rdSeq f n r).1, Q x
  | 0, x, hx => by simp [rdSeq] at hx
  | n + 1, x, hx => by
    simp only [rdSeq, List.mem_append, List.mem_singleton] at hx
    rcases hx with hx | rfl
    · exact rdSeq_every hq r n x hx
    · exact hq n _
theorem specParse_in (p : Prog) {b : List Int} (hb : ∀ x ∈ b, isByte x) : SrcIn (specParse p b).1 :=
  ⟨rdSeq_every (Q := fun t : Thread => i64 t.at_ ∧ i64 t.st ∧ ∀ x ∈ t.regs, i64 x) (fun _ r => ⟨rdNum_i64 hb _, rdNum_i64 hb _, rdSome_i64 hb _ _⟩) _ _,
   rdSeq_every (Q := fun c : Chan => ∀ x ∈ c.list, i64 x) (fun _ r => rdSome_i64 hb _ _) _ _,
   rdNotesS_i64 hb _ _⟩
/-- What is told of a right source is read back. -/
theorem parse_back {p : Prog} {s : Source} (hok : sourceOk p s = true) (hi : SrcIn s) : implParse p (srcBytes s) = (s, ⟨((srcBytes s).length : Int), false⟩) := by
  have hn := notesOk_len hok
  obtain ⟨hp, h1, h2, h3, h4, h5⟩ := (sourceOk_iff p s).1 hok
  have hp' := hp
  simp only [progOk, Bool.and_eq_true, decide_eq_true_eq, within_iff] at hp'
  have gT := rds_list (f := fun b _ => rdThread b) (g := thBytes) default h1.symm (fun i hi' => by
    have hm := getD_mem s.ths i default hi'
    obtain ⟨a1, a2, a3⟩ := hi.ths _ hm
    have a4 := h4 i hi'
    simp only [threadOk, Bool.and_eq_true, decide_eq_true_eq] at a4
    exact rds_thread a1 a2 a3 (by omega)) (srcBytes s) [] (s.chs.flatMap chBytes ++ (putAll [(s.tr.length : Int)] ++ s.tr.flatMap ntBytes)) (by simp [srcBytes])
  have gC := rds_list (f := fun b i => rdChan b (p.caps.getD i 0)) (g := chBytes) default h2.symm (fun i hi' => by
    have hm := getD_mem s.chs i default hi'
    obtain ⟨a4, a5⟩ := h5 i hi'
    simp only [chanOk, Bool.and_eq_true, decide_eq_true_eq, within_iff] at a4
    show Rds (fun b => rdChan b (p.caps.getD i 0)) _ _
    rw [← a5]
    exact rds_chan (hi.chs _ hm) (by omega)) (srcBytes s) (s.ths.flatMap thBytes) (putAll [(s.tr.length : Int)] ++ s.tr.flatMap ntBytes) (by simp [srcBytes])
  have gN := rds_count (n := (s.tr.length : Int)) (most := 4000) ⟨by omega, by omega⟩ (by omega) (by omega) (srcBytes s) (s.ths.flatMap thBytes ++ s.chs.flatMap chBytes) (s.tr.flatMap ntBytes) (by simp [srcBytes, putAll])
  have gS := rds_list (f := fun b _ => rdNote b) (g := ntBytes) (n := s.tr.length) (l := s.tr) default rfl (fun i hi' => by
    have hm := getD_mem s.tr i default hi'
    exact rds_note (hi.tr _ hm).1 (hi.tr _ hm).2) (srcBytes s) (s.ths.flatMap thBytes ++ (s.chs.flatMap chBytes ++ putInt s.tr.length)) [] (by simp [srcBytes, putAll])
  simp only [List.length_nil, Nat.zero_add, List.length_append, putInt_length] at gT gC gN gS
  have eT : parseT p (srcBytes s) = _ := gT
  have eC : parseC p (srcBytes s) = (s.chs, ⟨((s.ths.flatMap thBytes).length + (s.chs.flatMap chBytes).length : Nat), false⟩) := by
    unfold parseC
    rw [eT]
    exact gC
  have eN : parseN p (srcBytes s) = (s.tr, ⟨((s.ths.flatMap thBytes).length + ((s.chs.flatMap chBytes).length + 9) + (s.tr.flatMap ntBytes).length : Nat), false⟩) := by
    unfold parseN
    rw [eC]
    simp only
    rw [gN]
    simp only [Int.toNat_natCast]
    rw [Nat.add_assoc (List.flatMap thBytes s.ths).length _ 9]
    exact gS
  unfold implParse
  rw [eN, eC, eT]
  refine Prod.ext rfl (congrArg (fun n => Rd.mk n false) ?_)
  have : srcBytes s = s.ths.flatMap thBytes ++ (s.chs.flatMap chBytes ++ (putInt s.tr.length ++ s.tr.flatMap ntBytes)) := by simp [srcBytes, putAll]
  rw [this]
  simp only [List.length_append, putInt_length]
  omega
/-- Both read the same. -/
theorem implOf_eq (p : Prog) {b : List Int} (hb : ∀ x ∈ b, isByte x) : implOf p b = specOf p b := by
  by_cases hs : (specParse p b).2.bad = false ∧ sourceOk p (specParse p b).1 = true ∧ srcBytes (specParse p b).1 = b
  · have hp := ((sourceOk_iff p _).1 hs.2.1).1
    have e := parse_back hs.2.1 (specParse_in p hb)
    rw [hs.2.2] at e
    have e2 := spec_of_impl hp (by rw [e])
    unfold implOf specOf
    rw [if_pos hs]
    rw [e2] at hs ⊢
    rw [if_pos ⟨hp, hs⟩]
  · have : ¬ (progOk p = true ∧ (implParse p b).2.bad = false ∧ sourceOk p (implParse p b).1 = true ∧ srcBytes (implParse p b).1 = b) := fun h => by
      rw [← spec_of_impl h.1 h.2.1] at h
      exact hs h.2
    unfold implOf specOf
    rw [if_neg hs, if_neg this]

theorem okMr_map {α : Type} {M : Mode → Prop} {f : α → List AV} (h : ∀ x, okMs M (f x)) : ∀ (l : List α), okMr M (l.map f)
  | [] => trivial
  | a :: l => ⟨h a, okMr_map h l⟩
theorem okMr_ints {M : Mode → Prop} (l : List Int) : okMr M (ints l) := okMr_map (fun _ => by simp only [okMs, okM, and_true]) l
theorem okMr_bys {M : Mode → Prop} (l : List Int) : okMr M (bys l) := okMr_map (fun _ => by simp only [okMs, okM, and_true]) l
theorem okM_source (s : Source) (b : Bool) : okM (fun m => m = .own) (.tup [.agg (sourceC .own s), .bool b]) := by
  simp only [okM, okMs, sourceC, and_true, true_and]
  exact ⟨okMr_map (fun t => by simp only [threadC, okMs, okM, true_and, and_true]; exact okMr_ints _) _, okMr_map (fun t => by simp only [chanC, okMs, okM, true_and, and_true]; exact okMr_ints _) _, okMr_map (fun t => by simp only [noteC, okMs, okM, and_true]) _⟩
theorem lend_prog (p : Prog) (b : List Int) (e : Env) (cs : List Value) (hB : ∀ b, ¬ e.Bo b) (h : RVs e [.agg (progC .bw p), .sl .bw 1 (bys b)] cs []) : RVs e [.agg (progC .bw p), .sl .fz 1 (bys b)] cs [] := by
  simp only [RVs] at h ⊢
  obtain ⟨v, vs, L1, L2, h1, h2, ⟨v', vs', L3, L4, h3, h4, h5, h6⟩, h7⟩ := h
  exact ⟨v, vs, L1, L2, h1, h2, ⟨v', vs', L3, L4, h3, lend_sl hB h4, h5, h6⟩, h7⟩
theorem implSourceOf_ok (p : Prog) (b : List Int) (hp : SmallP p) (hb : b.length < 2 ^ 40) (hby : ∀ x ∈ b, isByte x) : CallOk Try.prog num 154 [.agg (progC .bw p), .sl .bw 1 (bys b)] [] (.tup [.agg (sourceC .own (implOf p b).1), .bool (implOf p b).2]) :=
  (implSourceOf_fz p b hp hb hby).lend (lend_prog p b) (okM_source _ _)
theorem specSourceOf_ok (p : Prog) (b : List Int) (hp : SmallP p) (hb : b.length < 2 ^ 40) (hby : ∀ x ∈ b, isByte x) : CallOk Try.prog num 153 [.agg (progC .bw p), .sl .bw 1 (bys b)] [] (.tup [.agg (sourceC .own (implOf p b).1), .bool (implOf p b).2]) := by
  rw [implOf_eq p hby]
  exact (specSourceOf_fz p b hp hb hby).lend (lend_prog p b) (okM_source _ _)
theorem implOf_ok (p : Prog) (b : List Int) : SrcSz (implOf p b).1 5000 ∧ ((implOf p b).2 = true → sourceOk p (implOf p b).1 = true ∧ srcBytes (implOf p b).1 = b) := by
  unfold implOf
  split
  · rename_i h
    exact ⟨srcSz_ok h.2.2.1, fun _ => ⟨h.2.2.1, h.2.2.2⟩⟩
  · exact ⟨⟨by simp, by simp, by simp, by simp, by simp, by simp [wSource, tots]⟩, by simp⟩

def resume (p : Prog) (b : List Int) (picks : List Int) : List Int × Bool := if (implOf p b).2 then (srcBytes (sourceRun p (implOf p b).1 picks).1, true) else ([], false)
theorem sourceRun_keeps {p : Prog} {s : Source} (picks : List Int) (h : sourceOk p s = true) : sourceOk p (sourceRun p s picks).1 = true := by
  unfold sourceRun
  split
  · have := runFold_ok h picks picks.length (Nat.le_refl _)
    rw [List.take_length] at this
    exact this.1
  · exact h
set_option maxHeartbeats 2000000 in
theorem implResume_ok (p : Prog) (b picks : List Int) (hp : SmallP p) (hb : b.length < 2 ^ 40) (hby : ∀ x ∈ b, isByte x) (hk : picks.length < 2 ^ 40) :
    CallOk Try.prog num 182 [.agg (progC .bw p), .sl .bw 1 (bys b), .sl .bw 1 (ints picks)] [] (.tup [.sl .own 1 (bys (resume p b picks).1), .bool (resume p b picks).2]) := by
  have ci := implSourceOf_ok p b hp hb hby
  obtain ⟨hsz, hok⟩ := implOf_ok p b
  unfold resume
  generalize implOf p b = w at hsz ci hok
  obtain ⟨s, ok⟩ := w
  simp only at hsz ci hok
  refine enter (m := m182) (f := 182) (fn := Try.f52) Try.func52 (by kernel_rfl) rfl c182 rfl (by simp [Try.f52]) (by simp [bnds, bnd, nf_sl, nf_int, nf_bool, nf_str, ints_bnd]) (fun _ _ h => by simp [preH, look] at h) ?_
  unfold m182
  simp only [go_sem, qA, qB, qC, qD, qE, qF, qG, qH]
  repeat refine K ?_
  cases ok with
  | false =>
    refine CA [] (ci) ?_
    try simp only [go_sem, qA, qB, qC, qD, qE, qF, qG, qH]
    repeat refine K ?_
    try simp only [go_sem, qA, qB, qC, qD, qE, qF, qG, qH]
    repeat refine K ?_
    refine ⟨_, Sub.refl _, FinS_tup (by simp) ?_⟩; simp [-List.drop_one]
  | true =>
    refine CA [] (ci) ?_
    try simp only [go_sem, qA, qB, qC, qD, qE, qF, qG, qH]
    repeat refine K ?_
    have hs := (hok rfl).1
    have cr := implSourceRun_ok p s picks hp (hsz.small (by omega)) hk
    have hz := srcSz_ok (sourceRun_keeps picks hs)
    have cb := implSourceBytes_ok (sourceRun p s picks).1 (hz.mono (by omega))
    try simp only [go_sem, qA, qB, qC, qD, qE, qF, qG, qH]
    repeat refine K ?_
    refine CA [] (cr) ?_
    try simp only [go_sem, qA, qB, qC, qD, qE, qF, qG, qH]
    repeat refine K ?_
    try simp only [go_sem, qA, qB, qC, qD, qE, qF, qG, qH]
    repeat refine K ?_
    apply calls_mk
    · refine Sub.trans (Sub.fold1 19 0 15 rfl (by simp [-gD] <;> omega) rfl (by decide) (by decide) rfl) ?_
      simp only [fS, qA, qC]
      refine Sub.trans (Sub.fold1 19 1 16 rfl (by simp [-gD] <;> omega) rfl (by decide) (by decide) rfl) ?_
      simp only [fS, qA, qC]
      refine Sub.trans (Sub.fold1 19 2 17 rfl (by simp [-gD] <;> omega) rfl (by decide) (by decide) rfl) ?_
      simp only [fS, qA, qC]
      exact Sub.refl _
    refine CA [] (cb) ?_
    try simp only [go_sem, qA, qB, qC, qD, qE, qF, qG, qH]
    repeat refine K ?_
    try simp only [go_sem, qA, qB, qC, qD, qE, qF, qG, qH]
    repeat refine K ?_
    refine ⟨_, Sub.refl _, FinS_tup (by simp) ?_⟩; simp [-List.drop_one]
set_option maxHeartbeats 2000000 in
theorem specResume_ok (p : Prog) (b picks : List Int) (hp : SmallP p) (hb : b.length < 2 ^ 40) (hby : ∀ x ∈ b, isByte x) (hk : picks.length < 2 ^ 40) :
    CallOk Try.prog num 183 [.agg (progC .bw p), .sl .bw 1 (bys b), .sl .bw 1 (ints picks)] [] (.tup [.sl .own 1 (bys (resume p b picks).1), .bool (resume p b picks).2]) := by
  have ci := specSourceOf_ok p b hp hb hby
  obtain ⟨hsz, hok⟩ := implOf_ok p b
  unfold resume
  generalize implOf p b = w at hsz ci hok
  obtain ⟨s, ok⟩ := w
  simp only at hsz ci hok
  refine enter (m := m183) (f := 183) (fn := Try.f53) Try.func53 (by kernel_rfl) rfl c183 rfl (by simp [Try.f53]) (by simp [bnds, bnd, nf_sl, nf_int, nf_bool, nf_str, ints_bnd]) (fun _ _ h => by simp [preH, look] at h) ?_
  unfold m183
  simp only [go_sem, qA, qB, qC, qD, qE, qF, qG, qH]
  repeat refine K ?_
  cases ok with
  | false =>
    refine CA [] (ci) ?_
    try simp only [go_sem, qA, qB, qC, qD, qE, qF, qG, qH]
    repeat refine K ?_
    try simp only [go_sem, qA, qB, qC, qD, qE, qF, qG, qH]
    repeat refine K ?_
    refine ⟨_, Sub.refl _, FinS_tup (by simp) ?_⟩; simp [-List.drop_one]
  | true =>
    refine CA [] (ci) ?_
    try simp only [go_sem, qA, qB, qC, qD, qE, qF, qG, qH]
    repeat refine K ?_
    have hs := (hok rfl).1
    have cr := specSourceRun_ok p s picks hp (hsz.small (by omega)) hk
    have hz := srcSz_ok (sourceRun_keeps picks hs)
    have cb := specSourceBytes_ok p (sourceRun p s picks).1 hp (hz.mono (by omega))
    rw [if_pos (sourceRun_keeps picks hs)] at cb
    try simp only [go_sem, qA, qB, qC, qD, qE, qF, qG, qH]
    repeat refine K ?_
    refine CA [] (cr) ?_
    try simp only [go_sem, qA, qB, qC, qD, qE, qF, qG, qH]
    repeat refine K ?_
    try simp only [go_sem, qA, qB, qC, qD, qE, qF, qG, qH]
    repeat refine K ?_
    refine CA [] (cb) ?_
    try simp only [go_sem, qA, qB, qC, qD, qE, qF, qG, qH]
    repeat refine K ?_
    try simp only [go_sem, qA, qB, qC, qD, qE, qF, qG, qH]
    repeat refine K ?_
    refine ⟨_, Sub.refl _, FinS_tup (by simp) ?_⟩; simp [-List.drop_one]
theorem implSaved_ok (p : Prog) (s : Source) (hp : SmallP p) (hs : SrcSz s 2097152) : CallOk Try.prog num 185 [.agg (progC .bw p), .agg (sourceC .bw s)] [] (.sl .own 1 (bys (if sourceOk p s then srcBytes s else []))) := by
  have co := implSourceOk_ok p s hp (hs.small (by omega))
  have cb := implSourceBytes_ok s hs
  refine enter (m := m185) (f := 185) (fn := Try.f55) Try.func55 (by kernel_rfl) rfl c185 rfl (by simp [Try.f55]) (by simp [bnds, bnd, nf_sl, nf_int, nf_bool, nf_str, ints_bnd]) (fun _ _ h => by simp [preH, look] at h) ?_
  unfold m185
  simp only [go_sem, qA, qB, qC, qD, qE, qF, qG, qH]
  repeat refine K ?_
  refine CA [] (co) ?_
  try simp only [go_sem, qA, qB, qC, qD, qE, qF, qG, qH]
  repeat refine K ?_
  cases sourceOk p s with
  | false =>
    try simp only [go_sem, qA, qB, qC, qD, qE, qF, qG, qH]
    repeat refine K ?_
    refine ⟨_, Sub.refl _, FinS_one ?_⟩; simp [-List.drop_one]
  | true =>
    try simp only [go_sem, qA, qB, qC, qD, qE, qF, qG, qH]
    repeat refine K ?_
    refine CA [] (cb) ?_
    try simp only [go_sem, qA, qB, qC, qD, qE, qF, qG, qH]
    repeat refine K ?_
    try simp only [go_sem, qA, qB, qC, qD, qE, qF, qG, qH]
    repeat refine K ?_
    refine ⟨_, Sub.refl _, FinS_one ?_⟩; simp [-List.drop_one]

/-- What comes behind: the next byte of a draw, mixed. -/
def hNext (h : Int) : Int := IntKind.i64.wrap (IntKind.i64.wrap (h * 6364136223846793005) + 1442695040888963407)
def mixed (h : Int) : Int := bAnd .i64 (bXor .i64 (bShr .i64 h 33) (bShr .i64 h 45)) 255
def byteF (code : List Int) (c : Cur) : Int × Cur :=
  if (c.i : Int) < code.length then (bAnd .i64 (IntKind.i64.wrap (mixed (hNext c.h) + IntKind.i64.wrap (code.getD c.i 0))) 255, ⟨c.i + 1, hNext c.h⟩) else (mixed (hNext c.h), ⟨c.i, hNext c.h⟩)

theorem and255 (a : Int) : 0 ≤ bAnd .i64 a 255 ∧ bAnd .i64 a 255 ≤ 255 := by
  unfold bAnd
  have h : (BitVec.ofInt IntKind.i64.bits a &&& BitVec.ofInt IntKind.i64.bits 255).toNat ≤ 255 := by
    rw [BitVec.toNat_and]
    have : (BitVec.ofInt IntKind.i64.bits 255).toNat = 255 := by decide
    rw [this]
    exact Nat.and_le_right
  rw [wrap64 (by omega) (by omega)]
  omega
theorem byteF_in (code : List Int) (c : Cur) : 0 ≤ (byteF code c).1 ∧ (byteF code c).1 ≤ 255 := by
  unfold byteF
  split
  · exact and255 _
  · exact and255 _

def curRow (code : List Int) (c : Cur) : Nat × List (List AV) := (3, [curC code c])

theorem l1Byte_ok (code : List Int) (c : Cur) (hb : code.length < 2 ^ 62) : CallOk Try.prog num 58 [.ptr 0 0 0] [(0, some (3, [curC code c]), some (3, [curC code (byteF code c).2]))] (.int .i64 (byteF code c).1) := by
  refine enter (m := m58) (f := 58) (fn := Try.f206) Try.func206 (by kernel_rfl) rfl c58 rfl (by simp [Try.f206]) (by simp [bnds, bnd, nf_sl, nf_int, nf_bool, nf_str, ints_bnd]) (by first | (simp [preH, hb_nil, hb_cons, ints_bnd]; done) | exact hb_cons _ _ _ _ ((hb_nil _).2 trivial) (by decide) (by simp [ints_bnd, bndr, bnds, bnd])) ?_
  unfold m58
  simp only [go_sem, qA, qB, qC, qD, qE, qF, qG, qH, curC, shiftA, reduceCtorEq]
  repeat refine K ?_
  refine branch_intro (fun hc => ?_) (fun hc => ?_)
  · simp only [decide_eq_true_eq] at hc
    have hl : c.i < code.length := by omega
    simp only [go_sem, qA, qB, qC, qD, qE, qF, qG, qH, shiftA, reduceCtorEq, bys_getD code c.i hl, wrap_succ (i := c.i) (by omega)]
    repeat refine K ?_
    apply fin_one
    · exact Sub.refl _
    · simp [-List.drop_one, -gD, byteF, hc, mixed, hNext] <;> (first | rfl | exact ⟨rfl, rfl⟩ | exact ⟨rfl, rfl, rfl⟩ | skip)
  · simp only [decide_eq_false_iff_not] at hc
    simp only [go_sem, qA, qB, qC, qD, qE, qF, qG, qH]
    repeat refine K ?_
    apply fin_one
    · exact Sub.refl _
    · simp [-List.drop_one, -gD, byteF, hc, mixed, hNext] <;> (first | rfl | exact ⟨rfl, rfl⟩ | exact ⟨rfl, rfl, rfl⟩ | skip)

def b1 (code : List Int) (c : Cur) : Int × Cur := byteF code c
def belowF (code : List Int) (c : Cur) (n : Int) : Int × Cur :=
  if n ≤ 0 then (0, c) else if n ≤ 256 then ((byteF code c).1.tmod n, (byteF code c).2) else
  ((IntKind.i64.wrap (IntKind.i64.wrap (IntKind.i64.wrap (IntKind.i64.wrap ((byteF code c).1 * 16777216) + IntKind.i64.wrap ((byteF code (byteF code c).2).1 * 65536)) + IntKind.i64.wrap ((byteF code (byteF code (byteF code c).2).2).1 * 256)) + (byteF code (byteF code (byteF code (byteF code c).2).2).2).1)).tmod n, (byteF code (byteF code (byteF code (byteF code c).2).2).2).2)

theorem belowF_in (code : List Int) (c : Cur) (n : Int) (h : 0 < n) : 0 ≤ (belowF code c n).1 ∧ (belowF code c n).1 < n := by
  unfold belowF
  rw [if_neg (by omega)]
  split
  · have := byteF_in code c
    exact ⟨Int.tmod_nonneg _ (by omega), Int.tmod_lt_of_pos _ h⟩
  · have h1 := byteF_in code c
    have h2 := byteF_in code (byteF code c).2
    have h3 := byteF_in code (byteF code (byteF code c).2).2
    have h4 := byteF_in code (byteF code (byteF code (byteF code c).2).2).2
    refine ⟨Int.tmod_nonneg _ ?_, Int.tmod_lt_of_pos _ h⟩
    rw [wrap64 (n := (byteF code c).1 * 16777216) (by omega) (by omega), wrap64 (n := (byteF code (byteF code c).2).1 * 65536) (by omega) (by omega), wrap64 (n := (byteF code (byteF code (byteF code c).2).2).1 * 256) (by omega) (by omega)]
    rw [wrap64 (n := (byteF code c).1 * 16777216 + (byteF code (byteF code c).2).1 * 65536) (by omega) (by omega)]
    rw [wrap64 (n := (byteF code c).1 * 16777216 + (byteF code (byteF code c).2).1 * 65536 + (byteF code (byteF code (byteF code c).2).2).1 * 256) (by omega) (by omega)]
    rw [wrap64 (by omega) (by omega)]
    omega
theorem belowF_zero (code : List Int) (c : Cur) (n : Int) (h : n ≤ 0) : belowF code c n = (0, c) := by
  unfold belowF
  rw [if_pos h]

theorem l1Below_ok (code : List Int) (c : Cur) (n : Int) (hb : code.length < 2 ^ 62) : CallOk Try.prog num 39 [.ptr 0 0 0, .int .i64 n] [(0, some (3, [curC code c]), some (3, [curC code (belowF code c n).2]))] (.int .i64 (belowF code c n).1) := by
  refine enter (m := m39) (f := 39) (fn := Try.f112) Try.func112 (by kernel_rfl) rfl c39 rfl (by simp [Try.f112]) (by simp [bnds, bnd, nf_sl, nf_int, nf_bool, nf_str, ints_bnd]) (by first | (simp [preH, hb_nil, hb_cons, ints_bnd]; done) | exact hb_cons _ _ _ _ ((hb_nil _).2 trivial) (by decide) (by simp [ints_bnd, bndr, bnds, bnd])) ?_
  unfold m39
  by_cases h0 : n ≤ 0
  · simp only [go_sem, qA, qB, qC, qD, qE, qF, qG, qH, h0]
    repeat refine K ?_
    apply fin_one
    · exact Sub.refl _
    · simp [-List.drop_one, -gD, belowF, h0] <;> (first | rfl | exact ⟨rfl, rfl⟩ | exact ⟨rfl, rfl, rfl⟩ | skip)
  have hn : ¬ n = 0 := by omega
  by_cases h1 : n ≤ 256
  · simp only [go_sem, qA, qB, qC, qD, qE, qF, qG, qH, h0, h1]
    repeat refine K ?_
    refine CA [(0, 0)] (l1Byte_ok code c hb) ?_
    try simp only [go_sem, qA, qB, qC, qD, qE, qF, qG, qH]
    repeat refine K ?_
    try simp only [go_sem, qA, qB, qC, qD, qE, qF, qG, qH, hn]
    repeat refine K ?_
    apply fin_one
    · exact Sub.refl _
    · simp [-List.drop_one, -gD, belowF, h0, h1] <;> (first | rfl | exact ⟨rfl, rfl⟩ | exact ⟨rfl, rfl, rfl⟩ | skip)
  simp only [go_sem, qA, qB, qC, qD, qE, qF, qG, qH, h0, h1]
  repeat refine K ?_
  refine CA [(0, 0)] (l1Byte_ok code c hb) ?_
  try simp only [go_sem, qA, qB, qC, qD, qE, qF, qG, qH]
  repeat refine K ?_
  try simp only [go_sem, qA, qB, qC, qD, qE, qF, qG, qH, hn]
  repeat refine K ?_
  refine CA [(0, 0)] (l1Byte_ok code (byteF code c).2 hb) ?_
  try simp only [go_sem, qA, qB, qC, qD, qE, qF, qG, qH]
  repeat refine K ?_
  try simp only [go_sem, qA, qB, qC, qD, qE, qF, qG, qH, hn]
  repeat refine K ?_
  refine CA [(0, 0)] (l1Byte_ok code (byteF code (byteF code c).2).2 hb) ?_
  try simp only [go_sem, qA, qB, qC, qD, qE, qF, qG, qH]
  repeat refine K ?_
  try simp only [go_sem, qA, qB, qC, qD, qE, qF, qG, qH, hn]
  repeat refine K ?_
  refine CA [(0, 0)] (l1Byte_ok code (byteF code (byteF code (byteF code c).2).2).2 hb) ?_
  try simp only [go_sem, qA, qB, qC, qD, qE, qF, qG, qH]
  repeat refine K ?_
  try simp only [go_sem, qA, qB, qC, qD, qE, qF, qG, qH, hn]
  repeat refine K ?_
  apply fin_one
  · exact Sub.refl _
  · simp [-List.drop_one, -gD, belowF, h0, h1] <;> (first | rfl | exact ⟨rfl, rfl⟩ | exact ⟨rfl, rfl, rfl⟩ | skip)

def onceF (code : List Int) (c : Cur) (n : Int) : Bool × Cur := (decide ((belowF code c n).1 = 0), (belowF code c n).2)
theorem l1Once_ok (code : List Int) (c : Cur) (n : Int) (hb : code.length < 2 ^ 62) : CallOk Try.prog num 40 [.ptr 0 0 0, .int .i64 n] [(0, some (3, [curC code c]), some (3, [curC code (onceF code c n).2]))] (.bool (onceF code c n).1) := by
  refine enter (m := m40) (f := 40) (fn := Try.f293) Try.func293 (by kernel_rfl) rfl c40 rfl (by simp [Try.f293]) (by simp [bnds, bnd, nf_sl, nf_int, nf_bool, nf_str, ints_bnd]) (by first | (simp [preH, hb_nil, hb_cons, ints_bnd]; done) | exact hb_cons _ _ _ _ ((hb_nil _).2 trivial) (by decide) (by simp [ints_bnd, bndr, bnds, bnd])) ?_
  unfold m40
  simp only [go_sem, qA, qB, qC, qD, qE, qF, qG, qH]
  repeat refine K ?_
  refine CA [(0, 0)] (l1Below_ok code c n hb) ?_
  try simp only [go_sem, qA, qB, qC, qD, qE, qF, qG, qH]
  repeat refine K ?_
  refine ⟨_, Sub.refl _, ?_⟩; simp [FinS, nilL, nilV, oneOr, -List.drop_one]
  simp [onceF]

def pickF (code : List Int) (c : Cur) (l : List Int) : Int × Cur := (l.getD (belowF code c l.length).1.toNat 0, (belowF code c l.length).2)
theorem l1PickInt_ok (code : List Int) (c : Cur) (l : List Int) (hb : code.length < 2 ^ 62) (hl : 0 < l.length) : CallOk Try.prog num 56 [.ptr 0 0 0, .sl .bw 1 (ints l)] [(0, some (3, [curC code c]), some (3, [curC code (pickF code c l).2]))] (.int .i64 (pickF code c l).1) := by
  refine enter (m := m56) (f := 56) (fn := Try.f231) Try.func231 (by kernel_rfl) rfl c56 rfl (by simp [Try.f231]) (by simp [bnds, bnd, nf_sl, nf_int, nf_bool, nf_str, ints_bnd]) (by first | (simp [preH, hb_nil, hb_cons, ints_bnd]; done) | exact hb_cons _ _ _ _ ((hb_nil _).2 trivial) (by decide) (by simp [ints_bnd, bndr, bnds, bnd])) ?_
  unfold m56
  simp only [go_sem, qA, qB, qC, qD, qE, qF, qG, qH]
  repeat refine K ?_
  refine CA [(0, 0)] (l1Below_ok code c l.length hb) ?_
  try simp only [go_sem, qA, qB, qC, qD, qE, qF, qG, qH]
  repeat refine K ?_
  have h := belowF_in code c l.length (by omega)
  have h2 : (belowF code c l.length).1.toNat < l.length := by omega
  try simp only [go_sem, qA, qB, qC, qD, qE, qF, qG, qH, ints_getD l _ h2]
  repeat refine K ?_
  refine ⟨_, Sub.refl _, ?_⟩; simp [FinS, nilL, nilV, oneOr, -List.drop_one]
  simp [pickF]

def hStep (h x : Int) : Int := bAnd .i64 (IntKind.i64.wrap (IntKind.i64.wrap (IntKind.i64.wrap (h * 131) + IntKind.i64.wrap x) + 7)) 1073741823
def hashOf (code : List Int) (i : Nat) : Int := (code.take i).foldl hStep (IntKind.i64.wrap (18813 + code.length))
def newF (code : List Int) : Cur := ⟨0, hashOf code 4000⟩
theorem hashOf_succ (code : List Int) (i : Nat) (h : i < code.length) : hashOf code (i + 1) = hStep (hashOf code i) (code.getD i 0) := by
  unfold hashOf
  rw [take_snoc code 0 i h, List.foldl_append]
  rfl

theorem l1New_ok (code : List Int) (hb : code.length < 2 ^ 62) : CallOk Try.prog num 37 [.sl .fz 1 (bys code)] [(10, none, some (3, [curC code (newF code)]))] (.ptr 10 0 0) := by
  refine enter (m := m37) (f := 37) (fn := Try.f94) Try.func94 (by kernel_rfl) rfl c37 rfl (by simp [Try.f94]) (by simp [bnds, bnd, nf_sl, nf_int, nf_bool, nf_str, ints_bnd]) (fun _ _ h => by simp [preH, look] at h) ?_
  unfold m37
  simp only [go_sem, qA, qB, qC, qD, qE, qF, qG, qH]
  repeat refine K ?_
  refine loop_intro (ι := Nat) (fun i => .mk [(0, .sl .fz 1 (bys code)), (3, .int .i64 (hashOf code i)), (4, .int .i64 i)] [] 10) (fun i => i ≤ code.length ∧ i ≤ 4000) (fun i => code.length - i) 0 (by simp) ?_ ?_
  · refine Sub.shape [] id (by omega) ?_ ?_ ?_ ?_ <;> simp [ints_rep]
    simp [hashOf]
  · rintro i ⟨hi, hi2⟩
    have hfin : ¬ (i : Int) < 4000 ∨ ¬ (i : Int) < code.length → hashOf code i = hashOf code 4000 := by
      rintro (h | h)
      · have : i = 4000 := by omega
        rw [this]
      · unfold hashOf
        rw [List.take_of_length_le (by omega), List.take_of_length_le (by omega)]
    by_cases h1 : (i : Int) < code.length
    · have h1' : i < code.length := by omega
      by_cases h2 : (i : Int) < 4000
      · have hs := hashOf_succ code i h1'
        unfold hStep at hs
        simp only [go_sem, qA, qB, qC, qD, qE, qF, qG, qH, h1, h2, bys_getD code i h1', ← hs, wrap_succ (i := i) (by omega)]
        repeat refine K ?_
        refine back_intro (i + 1) ?_ ⟨h1', by omega⟩ (by omega)
        refine Sub.shape [] id (by omega) ?_ ?_ ?_ ?_ <;> simp [ints_rep]
      · have he := hfin (.inl h2)
        simp only [go_sem, qA, qB, qC, qD, qE, qF, qG, qH, h1, h2, he]
        repeat refine K ?_
        apply fin_one
        · exact Sub.refl _
        · simp [-List.drop_one, -gD, newF] <;> (first | rfl | exact ⟨rfl, rfl⟩ | exact ⟨rfl, rfl, rfl⟩ | skip)
    · have he := hfin (.inr h1)
      simp only [go_sem, qA, qB, qC, qD, qE, qF, qG, qH, h1, he]
      repeat refine K ?_
      apply fin_one
      · exact Sub.refl _
      · simp [-List.drop_one, -gD, newF] <;> (first | rfl | exact ⟨rfl, rfl⟩ | exact ⟨rfl, rfl, rfl⟩ | skip)

theorem l1Max_ok (a b : Int) : CallOk Try.prog num 98 [.int .i64 a, .int .i64 b] [] (.int .i64 (if b < a then a else b)) := by
  refine enter (m := m98) (f := 98) (fn := Try.f292) Try.func292 (by kernel_rfl) rfl c98 rfl (by simp [Try.f292]) (by simp [bnds, bnd, nf_sl, nf_int, nf_bool, nf_str, ints_bnd]) (fun _ _ h => by simp [preH, look] at h) ?_
  unfold m98
  by_cases h : b < a
  · simp only [go_sem, qA, qB, qC, qD, qE, qF, qG, qH, h]
    repeat refine K ?_
    refine ⟨_, Sub.refl _, ?_⟩; simp [FinS, nilL, nilV, oneOr, -List.drop_one]
  · simp only [go_sem, qA, qB, qC, qD, qE, qF, qG, qH, h]
    repeat refine K ?_
    refine ⟨_, Sub.refl _, ?_⟩; simp [FinS, nilL, nilV, oneOr, -List.drop_one]

def insAt (code : List Int) (places r a b n k : Int) (c : Cur) : Ins × Cur :=
  if k = 0 ∨ k = 1 then (⟨1, r, 0, 0, IntKind.i64.wrap ((belowF code c 9).1 - 2)⟩, (belowF code c 9).2)
  else if k = 2 ∨ k = 3 then (⟨IntKind.i64.wrap (2 + (belowF code c 3).1), r, a, b, 0⟩, (belowF code c 3).2)
  else if k = 4 ∨ k = 5 ∨ k = 6 then (⟨5, 0, a, 0, n⟩, c)
  else if k = 7 ∨ k = 8 ∨ k = 9 then (⟨6, r, 0, (IntKind.i64.wrap (r + 1)).tmod 4, n⟩, c)
  else if k = 10 then (⟨7, r, a, 0, n⟩, c)
  else if k = 11 then (⟨8, r, 0, (IntKind.i64.wrap (r + 1)).tmod 4, n⟩, c)
  else if k = 12 then (if (onceF code c 3).1 then (⟨9, 0, 0, 0, n⟩, (onceF code c 3).2) else (⟨11, 0, 0, 0, (belowF code (onceF code c 3).2 places).1⟩, (belowF code (onceF code c 3).2 places).2))
  else if k = 13 then (⟨12, 0, a, 0, (belowF code c places).1⟩, (belowF code c places).2)
  else (⟨10, 0, a, 0, 0⟩, c)
def insF2 (code : List Int) (places chans : Int) (r a b : Int) (c : Cur) : Ins × Cur :=
  insAt code places r a b (belowF code c (if 1 < chans then chans else 1)).1 (belowF code (belowF code c (if 1 < chans then chans else 1)).2 16).1 (belowF code (belowF code c (if 1 < chans then chans else 1)).2 16).2
def insF (code : List Int) (c : Cur) (places chans : Int) : Ins × Cur :=
  insF2 code places chans (belowF code c 4).1 (belowF code (belowF code c 4).2 4).1 (belowF code (belowF code (belowF code c 4).2 4).2 4).1 (belowF code (belowF code (belowF code c 4).2 4).2 4).2

set_option maxHeartbeats 4000000 in
theorem l1DrawIns_ok (code : List Int) (c : Cur) (places chans : Int) (hb : code.length < 2 ^ 62) : CallOk Try.prog num 91 [.ptr 0 0 0, .int .i64 places, .int .i64 chans] [(0, some (3, [curC code c]), some (3, [curC code (insF code c places chans).2]))] (.agg (insC (insF code c places chans).1)) := by
  refine enter (m := m91) (f := 91) (fn := Try.f244) Try.func244 (by kernel_rfl) rfl c91 rfl (by simp [Try.f244]) (by simp [bnds, bnd, nf_sl, nf_int, nf_bool, nf_str, ints_bnd]) (by first | (simp [preH, hb_nil, hb_cons, ints_bnd]; done) | exact hb_cons _ _ _ _ ((hb_nil _).2 trivial) (by decide) (by simp [ints_bnd, bndr, bnds, bnd])) ?_
  unfold m91 insF
  simp only [go_sem, qA, qB, qC, qD, qE, qF, qG, qH]
  repeat refine K ?_
  refine CA [(0, 0)] (l1Below_ok code c 4 hb) ?_
  try simp only [go_sem, qA, qB, qC, qD, qE, qF, qG, qH]
  repeat refine K ?_
  generalize belowF code c 4 = r
  try simp only [go_sem, qA, qB, qC, qD, qE, qF, qG, qH]
  repeat refine K ?_
  refine CA [(0, 0)] (l1Below_ok code r.2 4 hb) ?_
  try simp only [go_sem, qA, qB, qC, qD, qE, qF, qG, qH]
  repeat refine K ?_
  generalize belowF code r.2 4 = a
  try simp only [go_sem, qA, qB, qC, qD, qE, qF, qG, qH]
  repeat refine K ?_
  refine CA [(0, 0)] (l1Below_ok code a.2 4 hb) ?_
  try simp only [go_sem, qA, qB, qC, qD, qE, qF, qG, qH]
  repeat refine K ?_
  generalize belowF code a.2 4 = b
  unfold insF2
  try simp only [go_sem, qA, qB, qC, qD, qE, qF, qG, qH]
  repeat refine K ?_
  refine CA [] (l1Max_ok chans 1) ?_
  try simp only [go_sem, qA, qB, qC, qD, qE, qF, qG, qH]
  repeat refine K ?_
  try simp only [go_sem, qA, qB, qC, qD, qE, qF, qG, qH]
  repeat refine K ?_
  refine CA [(0, 0)] (l1Below_ok code b.2 (if 1 < chans then chans else 1) hb) ?_
  try simp only [go_sem, qA, qB, qC, qD, qE, qF, qG, qH]
  repeat refine K ?_
  generalize belowF code b.2 (if 1 < chans then chans else 1) = n
  try simp only [go_sem, qA, qB, qC, qD, qE, qF, qG, qH]
  repeat refine K ?_
  refine CA [(0, 0)] (l1Below_ok code n.2 16 hb) ?_
  try simp only [go_sem, qA, qB, qC, qD, qE, qF, qG, qH]
  repeat refine K ?_
  generalize belowF code n.2 16 = k
  try simp only [go_sem, qA, qB, qC, qD, qE, qF, qG, qH]
  repeat refine K ?_
  obtain ⟨k, d⟩ := k
  simp only
  unfold insAt
  by_cases h0 : k = 0
  · subst h0
    try simp only [go_sem, qA, qB, qC, qD, qE, qF, qG, qH, reduceCtorEq]
    repeat refine K ?_
    refine CA [(0, 0)] (l1Below_ok code d 9 hb) ?_
    try simp only [go_sem, qA, qB, qC, qD, qE, qF, qG, qH]
    repeat refine K ?_
    try simp only [go_sem, qA, qB, qC, qD, qE, qF, qG, qH]
    repeat refine K ?_
    apply fin_one
    · exact Sub.refl _
    · simp [-List.drop_one, -gD, insC] <;> (first | rfl | exact ⟨rfl, rfl⟩ | exact ⟨rfl, rfl, rfl⟩ | skip)
  by_cases h1 : k = 1
  · subst h1
    try simp only [go_sem, qA, qB, qC, qD, qE, qF, qG, qH, reduceCtorEq]
    repeat refine K ?_
    refine CA [(0, 0)] (l1Below_ok code d 9 hb) ?_
    try simp only [go_sem, qA, qB, qC, qD, qE, qF, qG, qH]
    repeat refine K ?_
    try simp only [go_sem, qA, qB, qC, qD, qE, qF, qG, qH]
    repeat refine K ?_
    apply fin_one
    · exact Sub.refl _
    · simp [-List.drop_one, -gD, insC] <;> (first | rfl | exact ⟨rfl, rfl⟩ | exact ⟨rfl, rfl, rfl⟩ | skip)
  by_cases h2 : k = 2
  · subst h2
    try simp only [go_sem, qA, qB, qC, qD, qE, qF, qG, qH, reduceCtorEq]
    repeat refine K ?_
    refine CA [(0, 0)] (l1Below_ok code d 3 hb) ?_
    try simp only [go_sem, qA, qB, qC, qD, qE, qF, qG, qH]
    repeat refine K ?_
    try simp only [go_sem, qA, qB, qC, qD, qE, qF, qG, qH]
    repeat refine K ?_
    apply fin_one
    · exact Sub.refl _
    · simp [-List.drop_one, -gD, insC] <;> (first | rfl | exact ⟨rfl, rfl⟩ | exact ⟨rfl, rfl, rfl⟩ | skip)
  by_cases h3 : k = 3
  · subst h3
    try simp only [go_sem, qA, qB, qC, qD, qE, qF, qG, qH, reduceCtorEq]
    repeat refine K ?_
    refine CA [(0, 0)] (l1Below_ok code d 3 hb) ?_
    try simp only [go_sem, qA, qB, qC, qD, qE, qF, qG, qH]
    repeat refine K ?_
    try simp only [go_sem, qA, qB, qC, qD, qE, qF, qG, qH]
    repeat refine K ?_
    apply fin_one
    · exact Sub.refl _
    · simp [-List.drop_one, -gD, insC] <;> (first | rfl | exact ⟨rfl, rfl⟩ | exact ⟨rfl, rfl, rfl⟩ | skip)
  by_cases h4 : k = 4
  · subst h4
    try simp only [go_sem, qA, qB, qC, qD, qE, qF, qG, qH, reduceCtorEq]
    repeat refine K ?_
    apply fin_one
    · exact Sub.refl _
    · simp [-List.drop_one, -gD, insC] <;> (first | rfl | exact ⟨rfl, rfl⟩ | exact ⟨rfl, rfl, rfl⟩ | skip)
  by_cases h5 : k = 5
  · subst h5
    try simp only [go_sem, qA, qB, qC, qD, qE, qF, qG, qH, reduceCtorEq]
    repeat refine K ?_
    apply fin_one
    · exact Sub.refl _
    · simp [-List.drop_one, -gD, insC] <;> (first | rfl | exact ⟨rfl, rfl⟩ | exact ⟨rfl, rfl, rfl⟩ | skip)
  by_cases h6 : k = 6
  · subst h6
    try simp only [go_sem, qA, qB, qC, qD, qE, qF, qG, qH, reduceCtorEq]
    repeat refine K ?_
    apply fin_one
    · exact Sub.refl _
    · simp [-List.drop_one, -gD, insC] <;> (first | rfl | exact ⟨rfl, rfl⟩ | exact ⟨rfl, rfl, rfl⟩ | skip)
  by_cases h7 : k = 7
  · subst h7
    try simp only [go_sem, qA, qB, qC, qD, qE, qF, qG, qH, reduceCtorEq]
    repeat refine K ?_
    apply fin_one
    · exact Sub.refl _
    · simp [-List.drop_one, -gD, insC] <;> (first | rfl | exact ⟨rfl, rfl⟩ | exact ⟨rfl, rfl, rfl⟩ | skip)
  by_cases h8 : k = 8
  · subst h8
    try simp only [go_sem, qA, qB, qC, qD, qE, qF, qG, qH, reduceCtorEq]
    repeat refine K ?_
    apply fin_one
    · exact Sub.refl _
    · simp [-List.drop_one, -gD, insC] <;> (first | rfl | exact ⟨rfl, rfl⟩ | exact ⟨rfl, rfl, rfl⟩ | skip)
  by_cases h9 : k = 9
  · subst h9
    try simp only [go_sem, qA, qB, qC, qD, qE, qF, qG, qH, reduceCtorEq]
    repeat refine K ?_
    apply fin_one
    · exact Sub.refl _
    · simp [-List.drop_one, -gD, insC] <;> (first | rfl | exact ⟨rfl, rfl⟩ | exact ⟨rfl, rfl, rfl⟩ | skip)
  by_cases h10 : k = 10
  · subst h10
    try simp only [go_sem, qA, qB, qC, qD, qE, qF, qG, qH, reduceCtorEq]
    repeat refine K ?_
    apply fin_one
    · exact Sub.refl _
    · simp [-List.drop_one, -gD, insC] <;> (first | rfl | exact ⟨rfl, rfl⟩ | exact ⟨rfl, rfl, rfl⟩ | skip)
  by_cases h11 : k = 11
  · subst h11
    try simp only [go_sem, qA, qB, qC, qD, qE, qF, qG, qH, reduceCtorEq]
    repeat refine K ?_
    apply fin_one
    · exact Sub.refl _
    · simp [-List.drop_one, -gD, insC] <;> (first | rfl | exact ⟨rfl, rfl⟩ | exact ⟨rfl, rfl, rfl⟩ | skip)
  by_cases h12 : k = 12
  · subst h12
    try simp only [go_sem, qA, qB, qC, qD, qE, qF, qG, qH, reduceCtorEq]
    repeat refine K ?_
    refine CA [(0, 0)] (l1Once_ok code d 3 hb) ?_
    try simp only [go_sem, qA, qB, qC, qD, qE, qF, qG, qH]
    repeat refine K ?_
    cases ho : (onceF code d 3).1
    · try simp only [go_sem, qA, qB, qC, qD, qE, qF, qG, qH, ho]
      repeat refine K ?_
      refine CA [(0, 0)] (l1Below_ok code (onceF code d 3).2 places hb) ?_
      try simp only [go_sem, qA, qB, qC, qD, qE, qF, qG, qH]
      repeat refine K ?_
      try simp only [go_sem, qA, qB, qC, qD, qE, qF, qG, qH]
      repeat refine K ?_
      apply fin_one
      · exact Sub.refl _
      · simp [-List.drop_one, -gD, ho] <;> (first | rfl | exact ⟨rfl, rfl⟩ | exact ⟨rfl, rfl, rfl⟩ | skip)
    · try simp only [go_sem, qA, qB, qC, qD, qE, qF, qG, qH, ho]
      repeat refine K ?_
      apply fin_one
      · exact Sub.refl _
      · simp [-List.drop_one, -gD, ho] <;> (first | rfl | exact ⟨rfl, rfl⟩ | exact ⟨rfl, rfl, rfl⟩ | skip)
  by_cases h13 : k = 13
  · subst h13
    try simp only [go_sem, qA, qB, qC, qD, qE, qF, qG, qH, reduceCtorEq]
    repeat refine K ?_
    refine CA [(0, 0)] (l1Below_ok code d places hb) ?_
    try simp only [go_sem, qA, qB, qC, qD, qE, qF, qG, qH]
    repeat refine K ?_
    try simp only [go_sem, qA, qB, qC, qD, qE, qF, qG, qH]
    repeat refine K ?_
    apply fin_one
    · exact Sub.refl _
    · simp [-List.drop_one, -gD, insC] <;> (first | rfl | exact ⟨rfl, rfl⟩ | exact ⟨rfl, rfl, rfl⟩ | skip)
  try simp only [go_sem, qA, qB, qC, qD, qE, qF, qG, qH, h0, h1, h2, h3, h4, h5, h6, h7, h8, h9, h10, h11, h12, h13]
  repeat refine K ?_
  apply fin_one
  · exact Sub.refl _
  · simp [-List.drop_one, -gD, insC, h0, h1, h2, h3, h4, h5, h6, h7, h8, h9, h10, h11, h12, h13] <;> (first | rfl | exact ⟨rfl, rfl⟩ | exact ⟨rfl, rfl, rfl⟩ | skip)

def manyF {β : Type} (step : Cur → β × Cur) : Nat → Cur → List β × Cur
  | 0, c => ([], c)
  | n + 1, c => ((manyF step n c).1 ++ [(step (manyF step n c).2).1], (step (manyF step n c).2).2)
@[simp] theorem manyF_length {β : Type} (step : Cur → β × Cur) (c : Cur) : ∀ (n : Nat), (manyF step n c).1.length = n
  | 0 => rfl
  | n + 1 => by simp [manyF, manyF_length step c n]
def bodyAt (code : List Int) (chans n m k : Int) (c : Cur) : List Ins × Cur :=
  if k = 0 then ([⟨1, 0, 0, 0, 3⟩, ⟨1, 1, 0, 0, 1⟩, ⟨5, 0, 0, 0, n⟩, ⟨3, 0, 0, 1, 0⟩, ⟨12, 0, 0, 0, 6⟩, ⟨11, 0, 0, 0, 2⟩, ⟨13, 0, 0, 0, 0⟩], c)
  else if k = 1 then ([⟨6, 0, 0, 1, n⟩, ⟨12, 0, 1, 0, 4⟩, ⟨10, 0, 0, 0, 0⟩, ⟨11, 0, 0, 0, 0⟩, ⟨13, 0, 0, 0, 0⟩], c)
  else if k = 2 then ([⟨6, 0, 0, 1, n⟩, ⟨2, 0, 0, 1, 0⟩, ⟨5, 0, 0, 0, m⟩, ⟨10, 0, 0, 0, 0⟩, ⟨11, 0, 0, 0, 0⟩], c)
  else if k = 3 then ([⟨1, 2, 0, 0, 5⟩, ⟨7, 3, 2, 0, n⟩, ⟨8, 0, 0, 1, m⟩, ⟨10, 0, 1, 0, 0⟩, ⟨2, 2, 2, 3, 0⟩, ⟨11, 0, 0, 0, 1⟩], c)
  else
    ((manyF (fun d => insF code d (2 + (belowF code c 9).1 + 1) chans) (2 + (belowF code c 9).1).toNat (belowF code c 9).2).1 ++ [⟨(pickF code (manyF (fun d => insF code d (2 + (belowF code c 9).1 + 1) chans) (2 + (belowF code c 9).1).toNat (belowF code c 9).2).2 [13, 11]).1, 0, 0, 0, 0⟩],
     (pickF code (manyF (fun d => insF code d (2 + (belowF code c 9).1 + 1) chans) (2 + (belowF code c 9).1).toNat (belowF code c 9).2).2 [13, 11]).2)
def bodyF2 (code : List Int) (chans n m : Int) (c : Cur) : List Ins × Cur := bodyAt code chans n m (belowF code c 5).1 (belowF code c 5).2
def bodyF (code : List Int) (c : Cur) (chans : Int) : List Ins × Cur :=
  bodyF2 code chans (belowF code c chans).1 (belowF code (belowF code c chans).2 chans).1 (belowF code (belowF code c chans).2 chans).2

theorem bodyF_length (code : List Int) (c : Cur) (chans : Int) : 1 ≤ (bodyF code c chans).1.length ∧ (bodyF code c chans).1.length ≤ 24 := by
  unfold bodyF bodyF2
  generalize belowF code (belowF code (belowF code c chans).2 chans).2 5 = k
  unfold bodyAt
  have h := belowF_in code k.2 9 (by omega)
  repeat' split
  all_goals first | (simp; done) | (simp; omega)

set_option maxHeartbeats 4000000 in
theorem l1DrawBody_ok (code : List Int) (c : Cur) (chans : Int) (hb : code.length < 2 ^ 62) : CallOk Try.prog num 77 [.ptr 0 0 0, .int .i64 chans] [(0, some (3, [curC code c]), some (3, [curC code (bodyF code c chans).2]))] (.sl .own 5 (inss (bodyF code c chans).1)) := by
  refine enter (m := m77) (f := 77) (fn := Try.f172) Try.func172 (by kernel_rfl) rfl c77 rfl (by simp [Try.f172]) (by simp [bnds, bnd, nf_sl, nf_int, nf_bool, nf_str, ints_bnd]) (by first | (simp [preH, hb_nil, hb_cons, ints_bnd]; done) | exact hb_cons _ _ _ _ ((hb_nil _).2 trivial) (by decide) (by simp [ints_bnd, bndr, bnds, bnd])) ?_
  unfold m77 bodyF
  simp only [go_sem, qA, qB, qC, qD, qE, qF, qG, qH]
  repeat refine K ?_
  refine CA [(0, 0)] (l1Below_ok code c chans hb) ?_
  try simp only [go_sem, qA, qB, qC, qD, qE, qF, qG, qH]
  repeat refine K ?_
  generalize belowF code c chans = n
  try simp only [go_sem, qA, qB, qC, qD, qE, qF, qG, qH]
  repeat refine K ?_
  refine CA [(0, 0)] (l1Below_ok code n.2 chans hb) ?_
  try simp only [go_sem, qA, qB, qC, qD, qE, qF, qG, qH]
  repeat refine K ?_
  generalize belowF code n.2 chans = m
  try simp only [go_sem, qA, qB, qC, qD, qE, qF, qG, qH]
  repeat refine K ?_
  unfold bodyF2
  refine CA [(0, 0)] (l1Below_ok code m.2 5 hb) ?_
  try simp only [go_sem, qA, qB, qC, qD, qE, qF, qG, qH]
  repeat refine K ?_
  generalize belowF code m.2 5 = k
  try simp only [go_sem, qA, qB, qC, qD, qE, qF, qG, qH]
  repeat refine K ?_
  obtain ⟨k, d⟩ := k
  simp only
  unfold bodyAt
  by_cases h0 : k = 0
  · subst h0
    try simp only [go_sem, qA, qB, qC, qD, qE, qF, qG, qH, reduceCtorEq]
    repeat refine K ?_
    apply fin_one
    · exact Sub.refl _
    · simp [-List.drop_one, -gD, inss, insC] <;> (first | rfl | exact ⟨rfl, rfl⟩ | exact ⟨rfl, rfl, rfl⟩ | skip)
  by_cases h1 : k = 1
  · subst h1
    try simp only [go_sem, qA, qB, qC, qD, qE, qF, qG, qH, reduceCtorEq]
    repeat refine K ?_
    apply fin_one
    · exact Sub.refl _
    · simp [-List.drop_one, -gD, inss, insC] <;> (first | rfl | exact ⟨rfl, rfl⟩ | exact ⟨rfl, rfl, rfl⟩ | skip)
  by_cases h2 : k = 2
  · subst h2
    try simp only [go_sem, qA, qB, qC, qD, qE, qF, qG, qH, reduceCtorEq]
    repeat refine K ?_
    apply fin_one
    · exact Sub.refl _
    · simp [-List.drop_one, -gD, inss, insC] <;> (first | rfl | exact ⟨rfl, rfl⟩ | exact ⟨rfl, rfl, rfl⟩ | skip)
  by_cases h3 : k = 3
  · subst h3
    try simp only [go_sem, qA, qB, qC, qD, qE, qF, qG, qH, reduceCtorEq]
    repeat refine K ?_
    apply fin_one
    · exact Sub.refl _
    · simp [-List.drop_one, -gD, inss, insC] <;> (first | rfl | exact ⟨rfl, rfl⟩ | exact ⟨rfl, rfl, rfl⟩ | skip)
  simp only [if_neg h0, if_neg h1, if_neg h2, if_neg h3]
  try simp only [go_sem, qA, qB, qC, qD, qE, qF, qG, qH, h0, h1, h2, h3]
  repeat refine K ?_
  refine CA [(0, 0)] (l1Below_ok code d 9 hb) ?_
  try simp only [go_sem, qA, qB, qC, qD, qE, qF, qG, qH]
  repeat refine K ?_
  have hr := belowF_in code d 9 (by omega)
  generalize belowF code d 9 = r at hr
  obtain ⟨r, e⟩ := r
  simp only at hr ⊢
  have w1 : IntKind.i64.wrap (2 + r) = 2 + r := wrap64 (by omega) (by omega)
  have w2 : IntKind.i64.wrap (2 + r + 1) = 2 + r + 1 := wrap64 (by omega) (by omega)
  try simp only [go_sem, qA, qB, qC, qD, qE, qF, qG, qH, w1]
  repeat refine K ?_
  refine loop_intro (ι := Nat) (fun i => .mk [(0, .ptr 0 0 0), (1, .int .i64 chans), (7, .int .i64 (2 + r)), (8, .ns 10 0 i), (9, .int .i64 i)] [(0, 3, [curC code (manyF (fun d => insF code d (2 + r + 1) chans) i e).2]), (10, 5, inss (manyF (fun d => insF code d (2 + r + 1) chans) i e).1)] 11) (fun i => i ≤ (2 + r).toNat) (fun i => (2 + r).toNat - i) 0 (by simp) ?_ ?_
  · refine Sub.shape [] id (by omega) ?_ ?_ ?_ ?_ <;> simp [ints_rep]
    all_goals simp [manyF, inss]
  · intro i hi
    simp only [go_sem, qA, qB, qC, qD, qE, qF, qG, qH]
    refine branch_intro (fun hc => ?_) (fun hc => ?_)
    · simp only [decide_eq_true_eq] at hc
      simp only [go_sem, qA, qB, qC, qD, qE, qF, qG, qH, w2, wrap_succ (i := i) (by omega)]
      repeat refine K ?_
      refine CA [(0, 0)] (l1DrawIns_ok code (manyF (fun d => insF code d (2 + r + 1) chans) i e).2 (2 + r + 1) chans hb) ?_
      try simp only [go_sem, qA, qB, qC, qD, qE, qF, qG, qH]
      repeat refine K ?_
      try simp only [go_sem, qA, qB, qC, qD, qE, qF, qG, qH, wrap_succ (i := i) (by omega), manyF_length]
      repeat refine K ?_
      refine back_intro (i + 1) ?_ (by omega) (by omega)
      simp only [manyF]
      refine Sub.shape [] (fun n => if n = 10 then 12 else n) (by omega) ?_ ?_ ?_ ?_ <;> simp [ints_rep]
      exact .inl (by simp [inss, insC])
    · simp only [decide_eq_false_iff_not] at hc
      have hie : i = (2 + r).toNat := by omega
      subst hie
      have hl : ints [13, 11] = [[AV.int .i64 13], [.int .i64 11]] := rfl
      simp only [go_sem, qA, qB, qC, qD, qE, qF, qG, qH, ← hl]
      repeat refine K ?_
      refine CA [(0, 0)] (l1PickInt_ok code (manyF (fun d => insF code d (2 + r + 1) chans) (2 + r).toNat e).2 [13, 11] hb (by decide)) ?_
      try simp only [go_sem, qA, qB, qC, qD, qE, qF, qG, qH]
      repeat refine K ?_
      try simp only [go_sem, qA, qB, qC, qD, qE, qF, qG, qH, manyF_length]
      repeat refine K ?_
      apply fin_one
      · exact Sub.refl _
      · simp [-List.drop_one, -gD, insC, inss] <;> (first | rfl | exact ⟨rfl, rfl⟩ | exact ⟨rfl, rfl, rfl⟩ | skip)

/-- A loop whose bound is drawn anew each time. -/
def drawsF {β : Type} (code : List Int) (base m : Int) (step : Cur → β × Cur) : Nat → Nat → Cur → List β → List β × Cur
  | 0, _, c, acc => (acc, (belowF code c m).2)
  | f + 1, i, c, acc => if (i : Int) < base + (belowF code c m).1 then drawsF code base m step f (i + 1) (step (belowF code c m).2).2 (acc ++ [(step (belowF code c m).2).1]) else (acc, (belowF code c m).2)
theorem drawsF_go {β : Type} {code : List Int} {base m : Int} {step : Cur → β × Cur} {N i : Nat} {c : Cur} {acc : List β} (hi : i < N) (h : (i : Int) < base + (belowF code c m).1) :
    drawsF code base m step (N - i) i c acc = drawsF code base m step (N - (i + 1)) (i + 1) (step (belowF code c m).2).2 (acc ++ [(step (belowF code c m).2).1]) := by
  have : N - i = (N - (i + 1)) + 1 := by omega
  rw [this]
  simp only [drawsF, if_pos h]
theorem drawsF_stop {β : Type} {code : List Int} {base m : Int} {step : Cur → β × Cur} {f i : Nat} {c : Cur} {acc : List β} (h : ¬ (i : Int) < base + (belowF code c m).1) :
    drawsF code base m step f i c acc = (acc, (belowF code c m).2) := by
  cases f with
  | zero => rfl
  | succ f => simp only [drawsF, if_neg h]
theorem drawsF_length {β : Type} {code : List Int} {base m : Int} {step : Cur → β × Cur} : ∀ (f i : Nat) (c : Cur) (acc : List β), acc.length ≤ (drawsF code base m step f i c acc).1.length ∧ (drawsF code base m step f i c acc).1.length ≤ acc.length + f
  | 0, _, _, acc => by simp [drawsF]
  | f + 1, i, c, acc => by
    simp only [drawsF]
    split
    · have := drawsF_length (code := code) (base := base) (m := m) (step := step) f (i + 1) (step (belowF code c m).2).2 (acc ++ [(step (belowF code c m).2).1])
      simp only [List.length_append, List.length_cons, List.length_nil] at this
      omega
    · simp
theorem drawsF_pos {β : Type} {code : List Int} {base m : Int} {step : Cur → β × Cur} (f : Nat) (c : Cur) (hb : 0 < base) (hm : 0 < m) : 1 ≤ (drawsF code base m step (f + 1) 0 c []).1.length := by
  have := belowF_in code c m hm
  simp only [drawsF]
  rw [if_pos (by omega)]
  have h2 := (drawsF_length (code := code) (base := base) (m := m) (step := step) f (0 + 1) (step (belowF code c m).2).2 ([] ++ [(step (belowF code c m).2).1])).1
  simpa using h2
theorem drawsF_all {β : Type} {code : List Int} {base m : Int} {step : Cur → β × Cur} {Q : β → Prop} (hs : ∀ c, Q (step c).1) : ∀ (f i : Nat) (c : Cur) (acc : List β), (∀ x ∈ acc, Q x) → ∀ x ∈ (drawsF code base m step f i c acc).1, Q x
  | 0, _, _, acc, h => h
  | f + 1, i, c, acc, h => by
    simp only [drawsF]
    split
    · refine drawsF_all hs f (i + 1) _ _ fun x hx => ?_
      rcases List.mem_append.1 hx with hx | hx
      · exact h x hx
      · rw [List.mem_singleton.1 hx]
        exact hs _
    · exact h

def capsF (code : List Int) (n : Nat) (c : Cur) : List Int × Cur := manyF (fun d => (IntKind.i64.wrap (1 + (belowF code d 4).1), (belowF code d 4).2)) n c
def rightF2 (code : List Int) (n : Int) (c : Cur) : Prog × Cur :=
  (⟨(capsF code n.toNat c).1, (drawsF code 1 4 (fun d => bodyF code d n) 4 0 (capsF code n.toNat c).2 []).1⟩, (drawsF code 1 4 (fun d => bodyF code d n) 4 0 (capsF code n.toNat c).2 []).2)
def rightF (code : List Int) (c : Cur) : Prog × Cur := rightF2 code (1 + (belowF code c 3).1) (belowF code c 3).2

theorem capsF_length (code : List Int) (n : Nat) (c : Cur) : (capsF code n c).1.length = n := manyF_length _ _ _
theorem bodies_snoc (l : List (List Ins)) (b : List Ins) : bodies .own l ++ [[.sl .own 5 (inss b)]] = bodies .own (l ++ [b]) := by simp [bodies]

set_option maxHeartbeats 4000000 in
theorem l1DrawRight_ok (code : List Int) (c : Cur) (hb : code.length < 2 ^ 62) : CallOk Try.prog num 55 [.ptr 0 0 0] [(0, some (3, [curC code c]), some (3, [curC code (rightF code c).2]))] (.agg (progC .own (rightF code c).1)) := by
  refine enter (m := m55) (f := 55) (fn := Try.f93) Try.func93 (by kernel_rfl) rfl c55 rfl (by simp [Try.f93]) (by simp [bnds, bnd, nf_sl, nf_int, nf_bool, nf_str, ints_bnd]) (by first | (simp [preH, hb_nil, hb_cons, ints_bnd]; done) | exact hb_cons _ _ _ _ ((hb_nil _).2 trivial) (by decide) (by simp [ints_bnd, bndr, bnds, bnd])) ?_
  unfold m55 rightF
  simp only [go_sem, qA, qB, qC, qD, qE, qF, qG, qH]
  repeat refine K ?_
  refine CA [(0, 0)] (l1Below_ok code c 3 hb) ?_
  try simp only [go_sem, qA, qB, qC, qD, qE, qF, qG, qH]
  repeat refine K ?_
  have hn := belowF_in code c 3 (by omega)
  generalize belowF code c 3 = r at hn
  obtain ⟨r, d⟩ := r
  simp only at hn ⊢
  have w1 : IntKind.i64.wrap (1 + r) = 1 + r := wrap64 (by omega) (by omega)
  try simp only [go_sem, qA, qB, qC, qD, qE, qF, qG, qH, w1]
  repeat refine K ?_
  obtain ⟨n, hn2⟩ := Int.eq_ofNat_of_zero_le (show 0 ≤ 1 + r by omega)
  rw [hn2]
  unfold rightF2
  refine loop_intro (ι := Nat) (fun i => .mk [(0, .ptr 0 0 0), (2, .ptr 10 0 0), (3, .ptr 11 0 0), (4, .int .i64 n), (5, .int .i64 i)] [(0, 3, [curC code (capsF code i d).2]), (10, 2, [[.nil, .nil]]), (11, 2, [[.sl .own 1 (ints (capsF code i d).1), .nil]])] 12) (fun i => i ≤ n) (fun i => n - i) 0 (by simp) ?_ ?_
  · refine Sub.shape [] id (by omega) ?_ ?_ ?_ ?_ <;> simp [ints_rep]
    all_goals simp [capsF, manyF, ints_nil]
  · intro i hi
    have hcl := capsF_length code i d
    simp only [go_sem, qA, qB, qC, qD, qE, qF, qG, qH]
    refine branch_intro (fun hc => ?_) (fun hc => ?_)
    · simp only [decide_eq_true_eq] at hc
      simp only [go_sem, qA, qB, qC, qD, qE, qF, qG, qH, wrap_succ (i := i) (by omega), hcl]
      repeat refine K ?_
      refine DA [(0, 0)] (l1Below_ok code (capsF code i d).2 4 hb) ?_
      try simp only [go_sem, qA, qB, qC, qD, qE, qF, qG, qH]
      repeat refine K ?_
      try simp only [go_sem, qA, qB, qC, qD, qE, qF, qG, qH, wrap_succ (i := i) (by omega), hcl]
      repeat refine K ?_
      refine back_intro (i + 1) ?_ (by omega) (by omega)
      have hs : capsF code (i + 1) d = ((capsF code i d).1 ++ [IntKind.i64.wrap (1 + (belowF code (capsF code i d).2 4).1)], (belowF code (capsF code i d).2 4).2) := rfl
      refine Sub.trans (Sub.fold1 11 0 14 rfl (by simp [-gD] <;> omega) rfl (by decide) (by decide) rfl) ?_
      simp only [fS, qA, qC, ints_snoc, hcl]
      rw [hs]
      refine Sub.shape [] id (by omega) ?_ ?_ ?_ ?_ <;> simp [ints_rep]
    · simp only [decide_eq_false_iff_not] at hc
      have hie : i = n := by omega
      subst hie
      simp only [go_sem, qA, qB, qC, qD, qE, qF, qG, qH]
      repeat refine K ?_
      try simp only [Int.toNat_natCast]
      obtain ⟨p, hp⟩ : ∃ p, capsF code i d = p := ⟨_, rfl⟩
      obtain ⟨cs, e⟩ := p
      rw [hp] at hcl ⊢
      simp only at hcl ⊢
      refine loop_intro (ι := Nat × Cur × List (List Ins)) (fun s => .mk [(0, .ptr 0 0 0), (2, .ptr 10 0 0), (3, .ptr 11 0 0), (4, .int .i64 i), (6, .int .i64 s.1)] [(0, 3, [curC code s.2.1]), (10, 2, [[.nil, .nil]]), (11, 2, [[.sl .own 1 (ints cs), .sl .own 1 (bodies .own s.2.2)]])] 12) (fun s => s.1 ≤ 4 ∧ s.2.2.length = s.1 ∧ drawsF code 1 4 (fun d => bodyF code d i) (4 - s.1) s.1 s.2.1 s.2.2 = drawsF code 1 4 (fun d => bodyF code d i) 4 0 e []) (fun s => 4 - s.1) (0, e, []) ⟨by simp, rfl, rfl⟩ ?_ ?_
      · refine Sub.shape [] id (by omega) ?_ ?_ ?_ ?_ <;> simp [ints_rep]
      · rintro ⟨j, f, acc⟩ ⟨hj, hl, hd⟩
        simp only at hj hl hd ⊢
        simp only [go_sem, qA, qB, qC, qD, qE, qF, qG, qH]
        refine CA [(0, 0)] (l1Below_ok code f 4 hb) ?_
        try simp only [go_sem, qA, qB, qC, qD, qE, qF, qG, qH]
        repeat refine K ?_
        have hr := belowF_in code f 4 (by omega)
        have w2 : IntKind.i64.wrap (1 + (belowF code f 4).1) = 1 + (belowF code f 4).1 := wrap64 (by omega) (by omega)
        try simp only [go_sem, qA, qB, qC, qD, qE, qF, qG, qH, w2]
        repeat refine K ?_
        refine branch_intro (fun hc => ?_) (fun hc => ?_)
        · simp only [decide_eq_true_eq] at hc
          have hg := drawsF_go (code := code) (base := 1) (m := 4) (step := fun d => bodyF code d i) (N := 4) (i := j) (c := f) (acc := acc) (by omega) hc
          rw [hg] at hd
          try simp only at hd
          simp only [go_sem, qA, qB, qC, qD, qE, qF, qG, qH, wrap_succ (i := j) (by omega), hl]
          repeat refine K ?_
          refine DA [(0, 0)] (l1DrawBody_ok code (belowF code f 4).2 i hb) ?_
          try simp only [go_sem, qA, qB, qC, qD, qE, qF, qG, qH]
          repeat refine K ?_
          try simp only [go_sem, qA, qB, qC, qD, qE, qF, qG, qH, wrap_succ (i := j) (by omega), hl]
          repeat refine K ?_
          refine back_intro (j + 1, (bodyF code (belowF code f 4).2 i).2, acc ++ [(bodyF code (belowF code f 4).2 i).1]) ?_ ⟨by simp only; omega, by simp only [List.length_append, hl]; rfl, hd⟩ (by simp only; omega)
          refine Sub.trans (Sub.foldLast 15 0 13 rfl (by simp [-gD] <;> omega) rfl (by decide) (by decide) rfl) ?_
          simp only [fS, qA, qC, bodies_snoc]
          refine Sub.trans (Sub.fold1 11 1 15 rfl (by simp [-gD] <;> omega) rfl (by decide) (by decide) rfl) ?_
          simp only [fS, qA, qC, hl]
          refine Sub.shape [] id (by omega) ?_ ?_ ?_ ?_ <;> simp [ints_rep]
        · simp only [decide_eq_false_iff_not] at hc
          rw [drawsF_stop hc] at hd
          simp only [go_sem, qA, qB, qC, qD, qE, qF, qG, qH]
          repeat refine K ?_
          rw [← hd]
          apply fin_one
          · exact Sub.refl _
          · simp [-List.drop_one, -gD, ] <;> (first | rfl | exact ⟨rfl, rfl⟩ | exact ⟨rfl, rfl, rfl⟩ | skip)

theorem rightF_ok (code : List Int) (c : Cur) : 1 ≤ (rightF code c).1.caps.length ∧ (rightF code c).1.caps.length ≤ 3 ∧ 1 ≤ (rightF code c).1.bods.length ∧ (rightF code c).1.bods.length ≤ 4 ∧ ∀ b ∈ (rightF code c).1.bods, 1 ≤ b.length ∧ b.length ≤ 24 := by
  unfold rightF
  have hn := belowF_in code c 3 (by omega)
  generalize belowF code c 3 = r at hn
  obtain ⟨r, d⟩ := r
  simp only at hn ⊢
  unfold rightF2
  have h1 := capsF_length code (1 + r).toNat d
  generalize capsF code (1 + r).toNat d = p at h1
  obtain ⟨cs, e⟩ := p
  simp only at h1 ⊢
  refine ⟨by omega, by omega, drawsF_pos 3 e (by omega) (by omega), ?_, drawsF_all (Q := fun (b : List Ins) => 1 ≤ b.length ∧ b.length ≤ 24) (fun c => bodyF_length code c (1 + r)) 4 0 e [] (by simp)⟩
  exact (drawsF_length 4 0 e []).2


theorem insAt_ok (code : List Int) (places r a b n k chans : Int) (c : Cur) (hp : 1 ≤ places) (hr : 0 ≤ r ∧ r < 4) (ha : 0 ≤ a ∧ a < 4) (hb : 0 ≤ b ∧ b < 4) (hn : 0 ≤ n ∧ n < chans) (hc : chans ≤ 3) : insOk (insAt code places r a b n k c).1 places chans = true := by
  have h9 := belowF_in code c 9 (by omega)
  have h3 := belowF_in code c 3 (by omega)
  have hq := belowF_in code c places (by omega)
  have hq2 := belowF_in code (onceF code c 3).2 places (by omega)
  have w1 : IntKind.i64.wrap ((belowF code c 9).1 - 2) = (belowF code c 9).1 - 2 := wrap64 (by omega) (by omega)
  have w2 : IntKind.i64.wrap (2 + (belowF code c 3).1) = 2 + (belowF code c 3).1 := wrap64 (by omega) (by omega)
  have hb4 : 0 ≤ (IntKind.i64.wrap (r + 1)).tmod 4 ∧ (IntKind.i64.wrap (r + 1)).tmod 4 < 4 ∧ r ≠ (IntKind.i64.wrap (r + 1)).tmod 4 := by
    obtain rfl | rfl | rfl | rfl : r = 0 ∨ r = 1 ∨ r = 2 ∨ r = 3 := by omega
    all_goals decide
  unfold insAt
  rw [w1, w2]
  generalize (IntKind.i64.wrap (r + 1)).tmod 4 = b4 at hb4
  generalize belowF code (onceF code c 3).2 places = z2 at *
  generalize belowF code c places = z1 at *
  generalize belowF code c 9 = z9 at *
  generalize belowF code c 3 = z3 at *
  clear w1 w2
  split
  · simp [insOk, within_iff]
    omega
  · split
    · obtain e | e | e : z3.1 = 0 ∨ z3.1 = 1 ∨ z3.1 = 2 := by omega
      all_goals
        simp [insOk, within_iff, e]
        omega
    · split
      · simp [insOk, within_iff]
        omega
      · split
        · simp [insOk, within_iff]
          omega
        · split
          · simp [insOk, within_iff]
            omega
          · split
            · simp [insOk, within_iff]
              omega
            · split
              · split
                · simp [insOk, within_iff]
                  omega
                · simp [insOk, within_iff]
                  omega
              · split
                · simp [insOk, within_iff]
                  omega
                · simp [insOk, within_iff]
                  omega
theorem insF_ok (code : List Int) (c : Cur) (places chans : Int) (hp : 1 ≤ places) (h1 : 1 ≤ chans) (h3 : chans ≤ 3) : insOk (insF code c places chans).1 places chans = true := by
  have r1 := belowF_in code c 4 (by omega)
  have r2 := belowF_in code (belowF code c 4).2 4 (by omega)
  have r3 := belowF_in code (belowF code (belowF code c 4).2 4).2 4 (by omega)
  have hm : (if 1 < chans then chans else 1) = chans := by split <;> omega
  unfold insF insF2
  rw [hm]
  have r4 := belowF_in code (belowF code (belowF code (belowF code c 4).2 4).2 4).2 chans (by omega)
  exact insAt_ok _ _ _ _ _ _ _ _ _ hp r1 r2 r3 r4 h3
theorem manyF_all {β : Type} {step : Cur → β × Cur} {Q : β → Prop} (h : ∀ c, Q (step c).1) : ∀ (n : Nat) (c : Cur), ∀ x ∈ (manyF step n c).1, Q x
  | 0, c, x, hx => by simp [manyF] at hx
  | n + 1, c, x, hx => by
    simp only [manyF] at hx
    rcases List.mem_append.1 hx with hx | hx
    · exact manyF_all h n c x hx
    · rw [List.mem_singleton.1 hx]
      exact h _
theorem bodyF_ok (code : List Int) (c : Cur) (chans : Int) (h1 : 1 ≤ chans) (h3 : chans ≤ 3) : bodyOk (bodyF code c chans).1 chans = true := by
  have hn := belowF_in code c chans (by omega)
  have hm := belowF_in code (belowF code c chans).2 chans (by omega)
  unfold bodyF bodyF2
  generalize (belowF code (belowF code c chans).2 chans).1 = m at hm
  generalize (belowF code (belowF code (belowF code c chans).2 chans).2 5) = k
  generalize (belowF code c chans).1 = n at hn
  unfold bodyAt
  split
  · simp [bodyOk, insOk, within_iff, lastOp]
    omega
  · split
    · simp [bodyOk, insOk, within_iff, lastOp]
      omega
    · split
      · simp [bodyOk, insOk, within_iff, lastOp]
        omega
      · split
        · simp [bodyOk, insOk, within_iff, lastOp]
          omega
        · have h9 := belowF_in code k.2 9 (by omega)
          generalize belowF code k.2 9 = z at h9
          have hl := manyF_length (fun d => insF code d (2 + z.1 + 1) chans) z.2 (2 + z.1).toNat
          have ha := manyF_all (Q := fun x => insOk x (2 + z.1 + 1) chans = true) (fun c => insF_ok code c (2 + z.1 + 1) chans (by omega) h1 h3) (2 + z.1).toNat z.2
          generalize manyF (fun d => insF code d (2 + z.1 + 1) chans) (2 + z.1).toNat z.2 = w at hl ha
          have hpk : (pickF code w.2 [13, 11]).1 = 13 ∨ (pickF code w.2 [13, 11]).1 = 11 := by
            unfold pickF
            have hb := belowF_in code w.2 (([13, 11] : List Int).length : Int) (by simp)
            simp only [List.length_cons, List.length_nil] at hb ⊢
            obtain e | e : (belowF code w.2 ((0 + 1 + 1 : Nat) : Int)).1 = 0 ∨ (belowF code w.2 ((0 + 1 + 1 : Nat) : Int)).1 = 1 := by omega
            · rw [e]; exact .inl rfl
            · rw [e]; exact .inr rfl
          generalize (pickF code w.2 [13, 11]).1 = o at hpk
          have hlen : ((w.1 ++ [(⟨o, 0, 0, 0, 0⟩ : Ins)]).length : Int) = 2 + z.1 + 1 := by
            rw [List.length_append, hl]
            simp
            omega
          simp only [bodyOk, hlen]
          simp only [Bool.and_eq_true, Bool.or_eq_true, decide_eq_true_eq, within_iff, List.all_append, List.all_eq_true, List.mem_singleton, forall_eq]
          have hlo : lastOp (w.1 ++ [(⟨o, 0, 0, 0, 0⟩ : Ins)]) = o := by
            unfold lastOp
            simp [List.getD_eq_getElem?_getD]
          refine ⟨⟨⟨⟨by omega, h3⟩, by omega, by omega⟩, ha, ?_⟩, by rw [hlo]; exact hpk⟩
          rcases hpk with rfl | rfl
          · simp [insOk, within_iff]
            omega
          · simp [insOk, within_iff]
            omega
theorem capsF_in (code : List Int) (n : Nat) (c : Cur) : capsOk (capsF code n c).1 = true := by
  unfold capsOk capsF
  rw [List.all_eq_true]
  refine manyF_all (Q := fun x => within x 1 4 = true) (fun c => ?_) n c
  have h := belowF_in code c 4 (by omega)
  simp only
  rw [wrap64 (by omega) (by omega), within_iff]
  omega
/-- A program that is drawn right is right. -/
theorem rightF_progOk (code : List Int) (c : Cur) : progOk (rightF code c).1 = true := by
  have hs := rightF_ok code c
  unfold rightF at hs ⊢
  have hn := belowF_in code c 3 (by omega)
  generalize belowF code c 3 = r at hn hs
  obtain ⟨r, d⟩ := r
  simp only at hn hs ⊢
  unfold rightF2 at hs ⊢
  have h1 := capsF_length code (1 + r).toNat d
  have h2 := capsF_in code (1 + r).toNat d
  generalize capsF code (1 + r).toNat d = p at h1 h2 hs
  obtain ⟨cs, e⟩ := p
  simp only at h1 h2 hs ⊢
  have hl : (cs.length : Int) = 1 + r := by omega
  unfold progOk
  simp only [Bool.and_eq_true, decide_eq_true_eq, within_iff, List.all_eq_true]
  refine ⟨⟨⟨?_, by omega⟩, h2⟩, by omega⟩
  rw [hl]
  exact drawsF_all (Q := fun (b : List Ins) => bodyOk b (1 + r) = true) (fun c => bodyF_ok code c (1 + r) (by omega) (by omega)) 4 0 e [] (by simp)

/-- How long a row of steps may become. -/
def longF (n : Nat) (least most : Int) : Int := if most < least + (n : Int) / 4 then most else least + (n : Int) / 4
theorem l1Long_ok (code : List Int) (least most : Int) (hb : code.length < 2 ^ 62) (h0 : 0 ≤ least ∧ least < 2 ^ 40) : CallOk Try.prog num 213 [.sl .bw 1 (bys code), .int .i64 least, .int .i64 most] [] (.int .i64 (longF code.length least most)) := by
  have q0 : Int.tdiv (code.length : Int) 4 = (code.length : Int) / 4 := Int.tdiv_eq_ediv_of_nonneg (by omega)
  have q1 : IntKind.i64.wrap ((code.length : Int) / 4) = (code.length : Int) / 4 := wrap64 (by omega) (by omega)
  have q2 : IntKind.i64.wrap (least + (code.length : Int) / 4) = least + (code.length : Int) / 4 := wrap64 (by omega) (by omega)
  refine enter (m := m213) (f := 213) (fn := Try.f113) Try.func113 (by kernel_rfl) rfl c213 rfl (by simp [Try.f113]) (by simp [bnds, bnd, nf_sl, nf_int, nf_bool, nf_str, ints_bnd]) (fun _ _ h => by simp [preH, look] at h) ?_
  unfold m213
  simp only [go_sem, qA, qB, qC, qD, qE, qF, qG, qH, q0, q1, q2]
  repeat refine K ?_
  by_cases h : most < least + (code.length : Int) / 4
  · try simp only [go_sem, qA, qB, qC, qD, qE, qF, qG, qH, h, q0, q1, q2]
    repeat refine K ?_
    refine ⟨_, Sub.refl _, ?_⟩; simp [FinS, nilL, nilV, oneOr, -List.drop_one]
    simp [longF, h]
  · try simp only [go_sem, qA, qB, qC, qD, qE, qF, qG, qH, h, q0, q1, q2]
    repeat refine K ?_
    refine ⟨_, Sub.refl _, ?_⟩; simp [FinS, nilL, nilV, oneOr, -List.drop_one]
    simp [longF, h]
theorem longF_in (n : Nat) {least most : Int} (h : least ≤ most) : least ≤ longF n least most ∧ longF n least most ≤ most := by
  unfold longF
  split <;> omega
def orderF (code : List Int) (p : Prog) (c : Cur) : List Int × Cur := drawsF code 0 (longF code.length 60 120) (fun d => belowF code d p.bods.length) 120 0 c []
def orderedF (code : List Int) : Prog × List Int := ((rightF code (newF code)).1, (orderF code (rightF code (newF code)).1 (rightF code (newF code)).2).1)
set_option maxHeartbeats 4000000 in
theorem drawOrdered_ok (code : List Int) (hb : code.length < 2 ^ 62) : CallOk Try.prog num 168 [.sl .fz 1 (bys code)] [] (.tup [.agg (progC .own (orderedF code).1), .sl .own 1 (ints (orderedF code).2)]) := by
  have hm := longF_in code.length (show (60 : Int) ≤ 120 by omega)
  refine enter (m := m168) (f := 168) (fn := Try.f38) Try.func38 (by kernel_rfl) rfl c168 rfl (by simp [Try.f38]) (by simp [bnds, bnd, nf_sl, nf_int, nf_bool, nf_str, ints_bnd]) (fun _ _ h => by simp [preH, look] at h) ?_
  unfold m168 orderedF
  simp only [go_sem, qA, qB, qC, qD, qE, qF, qG, qH]
  repeat refine K ?_
  refine calls_intro (call_ok (n1 := 12) [(10, 11)] (l1New_ok code hb) ?_ ?_ ?_ ?_ ?_ ?_ ?_) ?_
  any_goals (first | omega | (simp [nilL, nilV]; done) | (simp [nilL, nilV, *]; done))
  try simp only [go_sem, qA, qB, qC, qD, qE, qF, qG, qH]
  repeat refine K ?_
  refine CA [(0, 11)] (l1DrawRight_ok code (newF code) hb) ?_
  try simp only [go_sem, qA, qB, qC, qD, qE, qF, qG, qH]
  repeat refine K ?_
  have hpl := (rightF_ok code (newF code)).2.2
  generalize rightF code (newF code) = r at hpl
  obtain ⟨p, d⟩ := r
  simp only at hpl ⊢
  try simp only [go_sem, qA, qB, qC, qD, qE, qF, qG, qH]
  repeat refine K ?_
  refine loop_intro (ι := Nat × Cur × List Int) (fun s => .mk [(0, .sl .fz 1 (bys code)), (2, .ptr 10 0 0), (4, .ptr 11 0 0), (5, .ptr 14 0 0), (6, .ns 15 0 s.1), (7, .int .i64 s.1)] [(10, 2, [[.nil, .nil]]), (11, 3, [curC code s.2.1]), (14, 2, [progC .own p]), (15, 1, ints s.2.2)] 16) (fun s => s.1 ≤ 120 ∧ s.2.2.length = s.1 ∧ drawsF code 0 (longF code.length 60 120) (fun d => belowF code d p.bods.length) (120 - s.1) s.1 s.2.1 s.2.2 = drawsF code 0 (longF code.length 60 120) (fun d => belowF code d p.bods.length) 120 0 d []) (fun s => 120 - s.1) (0, d, []) ⟨by simp, rfl, rfl⟩ ?_ ?_
  · refine Sub.trans (Sub.fold1 14 0 12 rfl (by simp [-gD] <;> omega) rfl (by decide) (by decide) rfl) ?_
    simp only [fS, qA, qC]
    refine Sub.trans (Sub.fold1 14 1 13 rfl (by simp [-gD] <;> omega) rfl (by decide) (by decide) rfl) ?_
    simp only [fS, qA, qC]
    refine Sub.shape [] id (by omega) ?_ ?_ ?_ ?_ <;> simp [ints_rep]
    exact .inl rfl
  · rintro ⟨j, f, acc⟩ ⟨hj, hl, hd⟩
    simp only at hj hl hd ⊢
    simp only [go_sem, qA, qB, qC, qD, qE, qF, qG, qH]
    refine CA [] (l1Long_ok code 60 120 hb (by omega)) ?_
    try simp only [go_sem, qA, qB, qC, qD, qE, qF, qG, qH]
    repeat refine K ?_
    refine CA [(0, 11)] (l1Below_ok code f (longF code.length 60 120) hb) ?_
    try simp only [go_sem, qA, qB, qC, qD, qE, qF, qG, qH]
    repeat refine K ?_
    have hr := belowF_in code f (longF code.length 60 120) (by omega)
    refine branch_intro (fun hc => ?_) (fun hc => ?_)
    · simp only [decide_eq_true_eq] at hc
      have hg := drawsF_go (code := code) (base := 0) (m := longF code.length 60 120) (step := fun d => belowF code d p.bods.length) (N := 120) (i := j) (c := f) (acc := acc) (by omega) (by omega)
      rw [hg] at hd
      simp only [go_sem, qA, qB, qC, qD, qE, qF, qG, qH, wrap_succ (i := j) (by omega), hl]
      repeat refine K ?_
      refine CA [(0, 11)] (l1Below_ok code (belowF code f (longF code.length 60 120)).2 p.bods.length hb) ?_
      try simp only [go_sem, qA, qB, qC, qD, qE, qF, qG, qH]
      repeat refine K ?_
      try simp only [go_sem, qA, qB, qC, qD, qE, qF, qG, qH, wrap_succ (i := j) (by omega), hl]
      repeat refine K ?_
      refine back_intro (j + 1, (belowF code (belowF code f (longF code.length 60 120)).2 p.bods.length).2, acc ++ [(belowF code (belowF code f (longF code.length 60 120)).2 p.bods.length).1]) ?_ ⟨by simp only; omega, by simp only [List.length_append, hl]; rfl, hd⟩ (by simp only; omega)
      refine Sub.trans (Sub.fold1 14 1 16 rfl (by simp [-gD] <;> omega) rfl (by decide) (by decide) rfl) ?_
      simp only [fS, qA, qC]
      refine Sub.shape [] (fun n => if n = 15 then 18 else n) (by omega) ?_ ?_ ?_ ?_ <;> simp [ints_rep]
      exact .inl (ints_snoc _ _)
    · simp only [decide_eq_false_iff_not] at hc
      rw [drawsF_stop (by omega)] at hd
      have hp : orderF code p d = (acc, (belowF code f (longF code.length 60 120)).2) := hd.symm
      simp only [go_sem, qA, qB, qC, qD, qE, qF, qG, qH]
      repeat refine K ?_
      rw [hp]
      apply fin_tup (by simp)
      · exact Sub.refl _
      · simp [-List.drop_one, -gD, hl] <;> (first | rfl | exact ⟨rfl, rfl⟩ | exact ⟨rfl, rfl, rfl⟩ | skip)
theorem orderedF_ok (code : List Int) : progOk (orderedF code).1 = true ∧ (orderedF code).2.length ≤ 120 := by
  refine ⟨rightF_progOk code (newF code), ?_⟩
  have := (drawsF_length (code := code) (base := 0) (m := longF code.length 60 120) (step := fun d => belowF code d (rightF code (newF code)).1.bods.length) 120 0 (rightF code (newF code)).2 []).2
  simpa [orderedF, orderF] using this

theorem sourceNew_ok {p : Prog} (h : progOk p = true) : sourceOk p (sourceNew p).1 = true := by
  have hp := h
  simp only [progOk, capsOk, Bool.and_eq_true, decide_eq_true_eq] at hp
  obtain ⟨⟨⟨hb, _⟩, hc⟩, _⟩ := hp
  rw [sourceOk_iff]
  simp only [sourceNew, h, if_true]
  refine ⟨?_, ?_, ?_, ?_, fun i hi => ?_, fun j hj => ?_⟩
  any_goals (first | exact h | (simp; done) | (simp [notesOk]; done))
  · have hi' : i < p.bods.length := by simpa using hi
    have hg : (List.replicate p.bods.length thread0).getD i default = thread0 := by simp [List.getD_eq_getElem?_getD, hi']
    have h2 := List.all_eq_true.1 hb _ (getD_mem p.bods i [] hi')
    simp only [bodyOk, Bool.and_eq_true, within_iff] at h2
    rw [hg]
    simp only [threadOk, thread0, Bool.and_eq_true, decide_eq_true_eq, within_iff]
    refine ⟨⟨rfl, by omega⟩, by omega⟩
  · have hj' : j < p.caps.length := by simpa using hj
    have hg : (p.caps.map fun c => (⟨c, [], false⟩ : Chan)).getD j default = ⟨p.caps.getD j 0, [], false⟩ := by simp [List.getD_eq_getElem?_getD, hj']
    rw [hg]
    have h2 := List.all_eq_true.1 hc _ (getD_mem p.caps j 0 hj')
    refine ⟨?_, rfl⟩
    simp only [chanOk, h2, Bool.true_and, decide_eq_true_eq]
    rw [within_iff] at h2
    simp [-List.getD_eq_getElem?_getD]
    omega

theorem smallP_of {p : Prog} (h : progOk p = true) : SmallP p := by
  simp only [progOk, Bool.and_eq_true, decide_eq_true_eq, within_iff] at h
  obtain ⟨⟨⟨hb, h1⟩, _⟩, h2⟩ := h
  refine ⟨by omega, by omega, fun b hb' => ?_⟩
  have := List.all_eq_true.1 hb b hb'
  simp only [bodyOk, Bool.and_eq_true, within_iff] at this
  omega


/-- A run that is drawn: who goes on, and what it is then. -/
def runStepF (code : List Int) (p : Prog) (st : Source × Cur) : Source × Cur :=
  (if (sourceStep p st.1 (belowF code st.2 p.bods.length).1).2 = 0 then (sourceStep p st.1 (belowF code st.2 p.bods.length).1).1 else st.1, (belowF code st.2 p.bods.length).2)
def runNF (code : List Int) (p : Prog) (st : Source × Cur) : Nat → Source × Cur
  | 0 => st
  | n + 1 => runStepF code p (runNF code p st n)
theorem runNF_ok {code : List Int} {p : Prog} {st : Source × Cur} (h : sourceOk p st.1 = true) : ∀ n, sourceOk p (runNF code p st n).1 = true
  | 0 => h
  | n + 1 => by
    have ih := runNF_ok (code := code) h n
    simp only [runNF, runStepF]
    split
    · exact sourceStep_keeps _ ih
    · exact ih
def runF2 (code : List Int) (p : Prog) (c : Cur) : (Prog × Source) × Cur :=
  ((p, (runNF code p ((sourceNew p).1, (belowF code c 60).2) (belowF code c 60).1.toNat).1), (runNF code p ((sourceNew p).1, (belowF code c 60).2) (belowF code c 60).1.toNat).2)
def runDrawF (code : List Int) (c : Cur) : (Prog × Source) × Cur := runF2 code (rightF code c).1 (rightF code c).2
theorem runDrawF_ok (code : List Int) (c : Cur) : progOk (runDrawF code c).1.1 = true ∧ sourceOk (runDrawF code c).1.1 (runDrawF code c).1.2 = true := by
  have hp := rightF_progOk code c
  unfold runDrawF runF2
  generalize rightF code c = r at hp
  exact ⟨hp, runNF_ok (st := ((sourceNew r.1).1, (belowF code r.2 60).2)) (sourceNew_ok hp) _⟩
set_option maxHeartbeats 8000000 in
theorem l4DrawRun_ok (code : List Int) (c : Cur) (hb : code.length < 2 ^ 62) : CallOk Try.prog num 288 [.ptr 0 0 0] [(0, some (3, [curC code c]), some (3, [curC code (runDrawF code c).2]))] (.tup [.agg (progC .own (runDrawF code c).1.1), .agg (sourceC .own (runDrawF code c).1.2)]) := by
  refine enter (m := m288) (f := 288) (fn := Try.f230) Try.func230 (by kernel_rfl) rfl c288 rfl (by simp [Try.f230]) (by simp [bnds, bnd, nf_sl, nf_int, nf_bool, nf_str, ints_bnd]) (by first | (simp [preH, hb_nil, hb_cons, ints_bnd]; done) | exact hb_cons _ _ _ _ ((hb_nil _).2 trivial) (by decide) (by simp [ints_bnd, bndr, bnds, bnd])) ?_
  unfold m288 runDrawF
  simp only [go_sem, qA, qB, qC, qD, qE, qF, qG, qH]
  repeat refine K ?_
  refine CA [(0, 0)] (l1DrawRight_ok code c hb) ?_
  try simp only [go_sem, qA, qB, qC, qD, qE, qF, qG, qH]
  repeat refine K ?_
  have hpk := rightF_progOk code c
  have hpl := (rightF_ok code c).2.2.1
  generalize rightF code c = r at hpk hpl
  obtain ⟨p, d⟩ := r
  simp only at hpk hpl ⊢
  have hpp := smallP_of hpk
  have hn1 := sourceNew_ok hpk
  try simp only [go_sem, qA, qB, qC, qD, qE, qF, qG, qH]
  repeat refine K ?_
  refine CA [] (specSourceNew_ok p hpp.caps hpp.bods (fun b hb => by have := hpp.body b hb; omega)) ?_
  try simp only [go_sem, qA, qB, qC, qD, qE, qF, qG, qH]
  repeat refine K ?_
  unfold runF2
  generalize hs0 : (sourceNew p).1 = s0 at hn1
  try simp only [go_sem, qA, qB, qC, qD, qE, qF, qG, qH]
  repeat refine K ?_
  refine CA [(0, 0)] (l1Below_ok code d 60 hb) ?_
  try simp only [go_sem, qA, qB, qC, qD, qE, qF, qG, qH]
  repeat refine K ?_
  have hr := belowF_in code d 60 (by omega)
  generalize belowF code d 60 = w at hr
  obtain ⟨w, e⟩ := w
  simp only at hr ⊢
  obtain ⟨n, hn2⟩ := Int.eq_ofNat_of_zero_le hr.1
  subst hn2
  try simp only [go_sem, qA, qB, qC, qD, qE, qF, qG, qH]
  repeat refine K ?_
  have hrn := fun i => runNF_ok (code := code) (st := (s0, e)) hn1 i
  refine loop_intro (ι := Nat) (fun i => .mk [(0, .ptr 0 0 0), (2, .ptr 10 0 0), (3, .ptr 11 0 0), (4, .ptr 14 0 0), (5, .ptr 18 0 0), (7, .int .i64 n), (8, .int .i64 i)] [(0, 3, [curC code (runNF code p (s0, e) i).2]), (10, 2, [[.nil, .nil]]), (11, 3, [[.nil, .nil, .nil]]), (14, 2, [progC .own p]), (18, 3, [sourceC .own (runNF code p (s0, e) i).1])] 19) (fun i => i ≤ n) (fun i => n - i) 0 (by simp) ?_ ?_
  · refine Sub.trans (Sub.fold1 14 0 12 rfl (by simp [-gD] <;> omega) rfl (by decide) (by decide) rfl) ?_
    simp only [fS, qA, qC]
    refine Sub.trans (Sub.fold1 14 1 13 rfl (by simp [-gD] <;> omega) rfl (by decide) (by decide) rfl) ?_
    simp only [fS, qA, qC]
    refine Sub.trans (Sub.fold1 18 0 15 rfl (by simp [-gD] <;> omega) rfl (by decide) (by decide) rfl) ?_
    simp only [fS, qA, qC]
    refine Sub.trans (Sub.fold1 18 1 16 rfl (by simp [-gD] <;> omega) rfl (by decide) (by decide) rfl) ?_
    simp only [fS, qA, qC]
    refine Sub.trans (Sub.fold1 18 2 17 rfl (by simp [-gD] <;> omega) rfl (by decide) (by decide) rfl) ?_
    simp only [fS, qA, qC]
    refine Sub.shape [] id (by omega) ?_ ?_ ?_ ?_ <;> simp [ints_rep]
    all_goals simp [runNF]
  · intro i hi
    have hso := hrn i
    have hsx : runNF code p (s0, e) (i + 1) = runStepF code p (runNF code p (s0, e) i) := rfl
    have hfin : i = n → runNF code p (s0, e) n = runNF code p (s0, e) i := fun h => by rw [h]
    generalize runNF code p (s0, e) i = st at hso hsx hfin
    obtain ⟨s, f⟩ := st
    simp only at hso hsx hfin ⊢
    have hss := small_of hso
    have cst := fun who => specSourceStep_ok p s who hpp hss
    have esp : ∀ who, specSourceStep p s who = sourceStep p s who := fun who => by unfold specSourceStep; rw [if_pos hso]
    have hws := wrap_succ (i := i) (by omega)
    have cbl := l1Below_ok code f p.bods.length hb
    simp only [runStepF] at hsx
    generalize belowF code f p.bods.length = w at hsx cbl
    obtain ⟨who, g⟩ := w
    simp only at hsx cbl
    have cs := cst who
    rw [esp] at cs
    generalize sourceStep p s who = z at hsx cs
    obtain ⟨z, zc⟩ := z
    simp only at hsx cs
    simp only [go_sem, qA, qB, qC, qD, qE, qF, qG, qH]
    refine branch_intro (fun hc => ?_) (fun hc => ?_)
    case refine_2 =>
      simp only [decide_eq_false_iff_not] at hc
      have hie : i = n := by omega
      rw [hfin hie]
      simp only [go_sem, qA, qB, qC, qD, qE, qF, qG, qH]
      repeat refine K ?_
      apply fin_tup (by simp)
      · exact Sub.refl _
      · simp [-List.drop_one, -gD, ] <;> (first | rfl | exact ⟨rfl, rfl⟩ | exact ⟨rfl, rfl, rfl⟩ | skip)
    simp only [decide_eq_true_eq] at hc
    try simp only [go_sem, qA, qB, qC, qD, qE, qF, qG, qH]
    repeat refine K ?_
    refine ⟨?_, ?_⟩
    · skip
      refine DA [(0, 0)] (cbl) ?_
      try simp only [go_sem, qA, qB, qC, qD, qE, qF, qG, qH]
      repeat refine K ?_
      refine ⟨?_, ?_⟩
      · skip
        refine DA [] (cs) ?_
        try simp only [go_sem, qA, qB, qC, qD, qE, qF, qG, qH]
        repeat refine K ?_
        try simp only [go_sem, qA, qB, qC, qD, qE, qF, qG, qH]
        repeat refine K ?_
        by_cases hz : zc = 0
        · try simp only [go_sem, qA, qB, qC, qD, qE, qF, qG, qH, hz, hws]
          repeat refine K ?_
          refine back_intro (i + 1) ?_ (by omega) (by omega)
          rw [hsx, if_pos hz]
          refine Sub.trans (Sub.fold1 14 0 19 rfl (by simp [-gD] <;> omega) rfl (by decide) (by decide) rfl) ?_
          simp only [fS, qA, qC]
          refine Sub.trans (Sub.fold1 14 1 20 rfl (by simp [-gD] <;> omega) rfl (by decide) (by decide) rfl) ?_
          simp only [fS, qA, qC]
          refine Sub.trans (Sub.fold1 18 0 24 rfl (by simp [-gD] <;> omega) rfl (by decide) (by decide) rfl) ?_
          simp only [fS, qA, qC]
          refine Sub.trans (Sub.fold1 18 1 25 rfl (by simp [-gD] <;> omega) rfl (by decide) (by decide) rfl) ?_
          simp only [fS, qA, qC]
          refine Sub.trans (Sub.fold1 18 2 26 rfl (by simp [-gD] <;> omega) rfl (by decide) (by decide) rfl) ?_
          simp only [fS, qA, qC]
          refine Sub.shape [] id (by omega) ?_ ?_ ?_ ?_ <;> simp [ints_rep]
        · try simp only [go_sem, qA, qB, qC, qD, qE, qF, qG, qH, hz, hws]
          repeat refine K ?_
          refine back_intro (i + 1) ?_ (by omega) (by omega)
          rw [hsx, if_neg hz]
          refine Sub.trans (Sub.fold1 14 0 19 rfl (by simp [-gD] <;> omega) rfl (by decide) (by decide) rfl) ?_
          simp only [fS, qA, qC]
          refine Sub.trans (Sub.fold1 14 1 20 rfl (by simp [-gD] <;> omega) rfl (by decide) (by decide) rfl) ?_
          simp only [fS, qA, qC]
          refine Sub.trans (Sub.fold1 18 0 21 rfl (by simp [-gD] <;> omega) rfl (by decide) (by decide) rfl) ?_
          simp only [fS, qA, qC]
          refine Sub.trans (Sub.fold1 18 1 22 rfl (by simp [-gD] <;> omega) rfl (by decide) (by decide) rfl) ?_
          simp only [fS, qA, qC]
          refine Sub.trans (Sub.fold1 18 2 23 rfl (by simp [-gD] <;> omega) rfl (by decide) (by decide) rfl) ?_
          simp only [fS, qA, qC]
          refine Sub.shape [] id (by omega) ?_ ?_ ?_ ?_ <;> simp [ints_rep]
      · skip
        repeat refine K ?_
        refine DA [] (cs) ?_
        try simp only [go_sem, qA, qB, qC, qD, qE, qF, qG, qH]
        repeat refine K ?_
        try simp only [go_sem, qA, qB, qC, qD, qE, qF, qG, qH]
        repeat refine K ?_
        by_cases hz : zc = 0
        · try simp only [go_sem, qA, qB, qC, qD, qE, qF, qG, qH, hz, hws]
          repeat refine K ?_
          refine back_intro (i + 1) ?_ (by omega) (by omega)
          rw [hsx, if_pos hz]
          refine Sub.trans (Sub.fold1 14 0 19 rfl (by simp [-gD] <;> omega) rfl (by decide) (by decide) rfl) ?_
          simp only [fS, qA, qC]
          refine Sub.trans (Sub.fold1 14 1 20 rfl (by simp [-gD] <;> omega) rfl (by decide) (by decide) rfl) ?_
          simp only [fS, qA, qC]
          refine Sub.trans (Sub.fold1 18 0 25 rfl (by simp [-gD] <;> omega) rfl (by decide) (by decide) rfl) ?_
          simp only [fS, qA, qC]
          refine Sub.trans (Sub.fold1 18 1 26 rfl (by simp [-gD] <;> omega) rfl (by decide) (by decide) rfl) ?_
          simp only [fS, qA, qC]
          refine Sub.trans (Sub.fold1 18 2 27 rfl (by simp [-gD] <;> omega) rfl (by decide) (by decide) rfl) ?_
          simp only [fS, qA, qC]
          refine Sub.shape [] id (by omega) ?_ ?_ ?_ ?_ <;> simp [ints_rep]
        · try simp only [go_sem, qA, qB, qC, qD, qE, qF, qG, qH, hz, hws]
          repeat refine K ?_
          refine back_intro (i + 1) ?_ (by omega) (by omega)
          rw [hsx, if_neg hz]
          refine Sub.trans (Sub.fold1 14 0 19 rfl (by simp [-gD] <;> omega) rfl (by decide) (by decide) rfl) ?_
          simp only [fS, qA, qC]
          refine Sub.trans (Sub.fold1 14 1 20 rfl (by simp [-gD] <;> omega) rfl (by decide) (by decide) rfl) ?_
          simp only [fS, qA, qC]
          refine Sub.trans (Sub.fold1 18 0 21 rfl (by simp [-gD] <;> omega) rfl (by decide) (by decide) rfl) ?_
          simp only [fS, qA, qC]
          refine Sub.trans (Sub.fold1 18 1 22 rfl (by simp [-gD] <;> omega) rfl (by decide) (by decide) rfl) ?_
          simp only [fS, qA, qC]
          refine Sub.trans (Sub.fold1 18 2 23 rfl (by simp [-gD] <;> omega) rfl (by decide) (by decide) rfl) ?_
          simp only [fS, qA, qC]
          refine Sub.shape [] id (by omega) ?_ ?_ ?_ ?_ <;> simp [ints_rep]
    · skip
      repeat refine K ?_
      refine DA [(0, 0)] (cbl) ?_
      try simp only [go_sem, qA, qB, qC, qD, qE, qF, qG, qH]
      repeat refine K ?_
      try simp only [go_sem, qA, qB, qC, qD, qE, qF, qG, qH]
      repeat refine K ?_
      refine DA [] (cs) ?_
      try simp only [go_sem, qA, qB, qC, qD, qE, qF, qG, qH]
      repeat refine K ?_
      try simp only [go_sem, qA, qB, qC, qD, qE, qF, qG, qH]
      repeat refine K ?_
      by_cases hz : zc = 0
      · try simp only [go_sem, qA, qB, qC, qD, qE, qF, qG, qH, hz, hws]
        repeat refine K ?_
        refine back_intro (i + 1) ?_ (by omega) (by omega)
        rw [hsx, if_pos hz]
        refine Sub.trans (Sub.fold1 14 0 19 rfl (by simp [-gD] <;> omega) rfl (by decide) (by decide) rfl) ?_
        simp only [fS, qA, qC]
        refine Sub.trans (Sub.fold1 14 1 20 rfl (by simp [-gD] <;> omega) rfl (by decide) (by decide) rfl) ?_
        simp only [fS, qA, qC]
        refine Sub.trans (Sub.fold1 18 0 25 rfl (by simp [-gD] <;> omega) rfl (by decide) (by decide) rfl) ?_
        simp only [fS, qA, qC]
        refine Sub.trans (Sub.fold1 18 1 26 rfl (by simp [-gD] <;> omega) rfl (by decide) (by decide) rfl) ?_
        simp only [fS, qA, qC]
        refine Sub.trans (Sub.fold1 18 2 27 rfl (by simp [-gD] <;> omega) rfl (by decide) (by decide) rfl) ?_
        simp only [fS, qA, qC]
        refine Sub.shape [] id (by omega) ?_ ?_ ?_ ?_ <;> simp [ints_rep]
      · try simp only [go_sem, qA, qB, qC, qD, qE, qF, qG, qH, hz, hws]
        repeat refine K ?_
        refine back_intro (i + 1) ?_ (by omega) (by omega)
        rw [hsx, if_neg hz]
        refine Sub.trans (Sub.fold1 14 0 19 rfl (by simp [-gD] <;> omega) rfl (by decide) (by decide) rfl) ?_
        simp only [fS, qA, qC]
        refine Sub.trans (Sub.fold1 14 1 20 rfl (by simp [-gD] <;> omega) rfl (by decide) (by decide) rfl) ?_
        simp only [fS, qA, qC]
        refine Sub.trans (Sub.fold1 18 0 21 rfl (by simp [-gD] <;> omega) rfl (by decide) (by decide) rfl) ?_
        simp only [fS, qA, qC]
        refine Sub.trans (Sub.fold1 18 1 22 rfl (by simp [-gD] <;> omega) rfl (by decide) (by decide) rfl) ?_
        simp only [fS, qA, qC]
        refine Sub.trans (Sub.fold1 18 2 23 rfl (by simp [-gD] <;> omega) rfl (by decide) (by decide) rfl) ?_
        simp only [fS, qA, qC]
        refine Sub.shape [] id (by omega) ?_ ?_ ?_ ?_ <;> simp [ints_rep]
theorem srcBytes_len {s : Source} (hz : SrcSz s 5000) : (srcBytes s).length ≤ 100000 := by
  have hw := hz.w
  simp only [srcBytes, List.length_append, flat_len wThread thBytes thBytes_len, flat_len wChan chBytes chBytes_len, flat_len wNote ntBytes ntBytes_len, putAll_length, List.length_cons, List.length_nil]
  unfold wSource at hw
  omega
def byteOf (n : Int) : Int := IntKind.u8.wrap n
/-- Bytes of a drawn run, bent sometimes. -/
def bytesAt (code : List Int) (b : List Int) (k : Int) (c : Cur) : List Int × Cur :=
  if k = 0 then (b.take (belowF code c (b.length + 1)).1.toNat, (belowF code c (b.length + 1)).2)
  else if k = 1 then (b ++ [0], c)
  else if k = 2 ∧ (8 : Int) < b.length then (b.set 8 (byteOf (pickF code c [0, 5, 24, 255]).1), (pickF code c [0, 5, 24, 255]).2)
  else (b, c)
def bytes2F (code : List Int) (r : (Prog × Source) × Cur) : (Prog × List Int) × Cur :=
  ((r.1.1, (bytesAt code (srcBytes r.1.2) (belowF code r.2 6).1 (belowF code r.2 6).2).1), (bytesAt code (srcBytes r.1.2) (belowF code r.2 6).1 (belowF code r.2 6).2).2)
def bytesF (code : List Int) (c : Cur) : (Prog × List Int) × Cur := bytes2F code (runDrawF code c)
set_option maxHeartbeats 8000000 in
theorem l26DrawBytes_ok (code : List Int) (c : Cur) (hb : code.length < 2 ^ 62) : CallOk Try.prog num 237 [.ptr 0 0 0] [(0, some (3, [curC code c]), some (3, [curC code (bytesF code c).2]))] (.tup [.agg (progC .own (bytesF code c).1.1), .sl .own 1 (bys (bytesF code c).1.2)]) := by
  refine enter (m := m237) (f := 237) (fn := Try.f147) Try.func147 (by kernel_rfl) rfl c237 rfl (by simp [Try.f147]) (by simp [bnds, bnd, nf_sl, nf_int, nf_bool, nf_str, ints_bnd]) (by first | (simp [preH, hb_nil, hb_cons, ints_bnd]; done) | exact hb_cons _ _ _ _ ((hb_nil _).2 trivial) (by decide) (by simp [ints_bnd, bndr, bnds, bnd])) ?_
  unfold m237 bytesF
  simp only [go_sem, qA, qB, qC, qD, qE, qF, qG, qH]
  repeat refine K ?_
  refine CA [(0, 0)] (l4DrawRun_ok code c hb) ?_
  try simp only [go_sem, qA, qB, qC, qD, qE, qF, qG, qH]
  repeat refine K ?_
  obtain ⟨hpk, hso⟩ := runDrawF_ok code c
  generalize runDrawF code c = r at hpk hso
  obtain ⟨⟨p, s⟩, d⟩ := r
  simp only at hpk hso ⊢
  have hpp := smallP_of hpk
  have hz := srcSz_ok hso
  have cb := specSourceBytes_ok p s hpp (hz.mono (by omega))
  rw [if_pos hso] at cb
  try simp only [go_sem, qA, qB, qC, qD, qE, qF, qG, qH]
  repeat refine K ?_
  refine CA [] (cb) ?_
  try simp only [go_sem, qA, qB, qC, qD, qE, qF, qG, qH]
  repeat refine K ?_
  unfold bytes2F
  simp only
  have hbl := srcBytes_len hz
  generalize srcBytes s = b at hbl
  try simp only [go_sem, qA, qB, qC, qD, qE, qF, qG, qH]
  repeat refine K ?_
  refine CA [(0, 0)] (l1Below_ok code d 6 hb) ?_
  try simp only [go_sem, qA, qB, qC, qD, qE, qF, qG, qH]
  repeat refine K ?_
  generalize belowF code d 6 = w
  obtain ⟨k, e⟩ := w
  simp only
  by_cases h0 : k = 0
  · have hb1 := belowF_in code e (b.length + 1) (by omega)
    have hl := l1Below_ok code e (b.length + 1) hb
    have hw1 : IntKind.i64.wrap ((b.length : Int) + 1) = b.length + 1 := wrap64 (by omega) (by omega)
    have he : bytesAt code b k e = (b.take (belowF code e (b.length + 1)).1.toNat, (belowF code e (b.length + 1)).2) := by simp [bytesAt, h0]
    rw [he]
    generalize belowF code e (b.length + 1) = x at hb1 hl
    obtain ⟨x, g⟩ := x
    simp only at hb1 hl ⊢
    try simp only [go_sem, qA, qB, qC, qD, qE, qF, qG, qH, h0, hw1]
    repeat refine K ?_
    refine DA [(0, 0)] (hl) ?_
    try simp only [go_sem, qA, qB, qC, qD, qE, qF, qG, qH]
    repeat refine K ?_
    try simp only [go_sem, qA, qB, qC, qD, qE, qF, qG, qH]
    repeat refine K ?_
    apply fin_tup (by simp)
    · exact Sub.refl _
    · simp [-List.drop_one, -gD, ] <;> (first | rfl | exact ⟨rfl, rfl⟩ | exact ⟨rfl, rfl, rfl⟩ | skip)
      exact ⟨by omega, fun h => by rw [← h, List.take_length]⟩
  by_cases h1 : k = 1
  · have he : bytesAt code b k e = (b ++ [0], e) := by simp [bytesAt, h1]
    rw [he]
    try simp only [go_sem, qA, qB, qC, qD, qE, qF, qG, qH, h0, h1]
    repeat refine K ?_
    apply fin_tup (by simp)
    · exact Sub.refl _
    · simp [-List.drop_one, -gD, ] <;> (first | rfl | exact ⟨rfl, rfl⟩ | exact ⟨rfl, rfl, rfl⟩ | skip)
      simp [bys]
  by_cases h2 : k = 2
  case neg =>
    have he : bytesAt code b k e = (b, e) := by simp [bytesAt, h0, h1, h2]
    rw [he]
    try simp only [go_sem, qA, qB, qC, qD, qE, qF, qG, qH, h0, h1, h2]
    repeat refine K ?_
    apply fin_tup (by simp)
    · exact Sub.refl _
    · simp [-List.drop_one, -gD, ] <;> (first | rfl | exact ⟨rfl, rfl⟩ | exact ⟨rfl, rfl, rfl⟩ | skip)
  by_cases h8 : (8 : Int) < b.length
  case neg =>
    have he : bytesAt code b k e = (b, e) := by simp [bytesAt, h2, h8]
    rw [he]
    try simp only [go_sem, qA, qB, qC, qD, qE, qF, qG, qH, h0, h1, h2, h8]
    repeat refine K ?_
    apply fin_tup (by simp)
    · exact Sub.refl _
    · simp [-List.drop_one, -gD, ] <;> (first | rfl | exact ⟨rfl, rfl⟩ | exact ⟨rfl, rfl, rfl⟩ | skip)
  have hp := l1PickInt_ok code e [0, 5, 24, 255] hb (by simp)
  have he : bytesAt code b k e = (b.set 8 (byteOf (pickF code e [0, 5, 24, 255]).1), (pickF code e [0, 5, 24, 255]).2) := by simp [bytesAt, h2, h8]
  rw [he]
  generalize pickF code e [0, 5, 24, 255] = x at hp
  obtain ⟨x, g⟩ := x
  simp only at hp ⊢
  have hl : ints [0, 5, 24, 255] = [[AV.int .i64 0], [.int .i64 5], [.int .i64 24], [.int .i64 255]] := rfl
  have hg := bys_getD b 8 (by omega)
  try simp only [go_sem, qA, qB, qC, qD, qE, qF, qG, qH, h0, h1, h2, h8, ← hl]
  repeat refine K ?_
  refine CA [(0, 0)] (hp) ?_
  try simp only [go_sem, qA, qB, qC, qD, qE, qF, qG, qH]
  repeat refine K ?_
  try simp only [go_sem, qA, qB, qC, qD, qE, qF, qG, qH, hg]
  repeat refine K ?_
  apply fin_tup (by simp)
  · exact Sub.refl _
  · simp [-List.drop_one, -gD, byteOf] <;> (first | rfl | exact ⟨rfl, rfl⟩ | exact ⟨rfl, rfl, rfl⟩ | skip)
def bpicksF (code : List Int) (c : Cur) : List Int × Cur := drawsF code 0 20 (fun d => belowF code d 5) 20 0 c []
def resumeDraw (code : List Int) : (Prog × List Int) × List Int := ((bytesF code (newF code)).1, (bpicksF code (bytesF code (newF code)).2).1)
set_option maxHeartbeats 4000000 in
theorem drawResume_ok (code : List Int) (hb : code.length < 2 ^ 62) : CallOk Try.prog num 181 [.sl .fz 1 (bys code)] [] (.tup [.agg (progC .own (resumeDraw code).1.1), .sl .own 1 (bys (resumeDraw code).1.2), .sl .own 1 (ints (resumeDraw code).2)]) := by
  refine enter (m := m181) (f := 181) (fn := Try.f51) Try.func51 (by kernel_rfl) rfl c181 rfl (by simp [Try.f51]) (by simp [bnds, bnd, nf_sl, nf_int, nf_bool, nf_str, ints_bnd]) (fun _ _ h => by simp [preH, look] at h) ?_
  unfold m181 resumeDraw
  simp only [go_sem, qA, qB, qC, qD, qE, qF, qG, qH]
  repeat refine K ?_
  refine calls_intro (call_ok (n1 := 12) [(10, 11)] (l1New_ok code hb) ?_ ?_ ?_ ?_ ?_ ?_ ?_) ?_
  any_goals (first | omega | (simp [nilL, nilV]; done) | (simp [nilL, nilV, *]; done))
  try simp only [go_sem, qA, qB, qC, qD, qE, qF, qG, qH]
  repeat refine K ?_
  refine CA [(0, 11)] (l26DrawBytes_ok code (newF code) hb) ?_
  try simp only [go_sem, qA, qB, qC, qD, qE, qF, qG, qH]
  repeat refine K ?_
  generalize bytesF code (newF code) = r
  obtain ⟨⟨p, b⟩, d⟩ := r
  simp only
  try simp only [go_sem, qA, qB, qC, qD, qE, qF, qG, qH]
  repeat refine K ?_
  refine loop_intro (ι := Nat × Cur × List Int) (fun s => .mk [(2, .ptr 10 0 0), (5, .ptr 11 0 0), (6, .ptr 15 0 0), (7, .ns 14 0 b.length), (8, .ns 16 0 s.1), (9, .int .i64 s.1)] [(10, 2, [[.nil, .nil]]), (11, 3, [curC code s.2.1]), (14, 1, bys b), (15, 2, [progC .own p]), (16, 1, ints s.2.2)] 17) (fun s => s.1 ≤ 20 ∧ s.2.2.length = s.1 ∧ drawsF code 0 20 (fun d => belowF code d 5) (20 - s.1) s.1 s.2.1 s.2.2 = drawsF code 0 20 (fun d => belowF code d 5) 20 0 d []) (fun s => 20 - s.1) (0, d, []) ⟨by simp, rfl, rfl⟩ ?_ ?_
  · refine Sub.trans (Sub.fold1 15 0 12 rfl (by simp [-gD] <;> omega) rfl (by decide) (by decide) rfl) ?_
    simp only [fS, qA, qC]
    refine Sub.trans (Sub.fold1 15 1 13 rfl (by simp [-gD] <;> omega) rfl (by decide) (by decide) rfl) ?_
    simp only [fS, qA, qC]
    refine Sub.shape [] id (by omega) ?_ ?_ ?_ ?_ <;> simp [ints_rep]
    exact .inl rfl
  · rintro ⟨j, f, acc⟩ ⟨hj, hl, hd⟩
    simp only at hj hl hd ⊢
    simp only [go_sem, qA, qB, qC, qD, qE, qF, qG, qH]
    refine CA [(0, 11)] (l1Below_ok code f 20 hb) ?_
    try simp only [go_sem, qA, qB, qC, qD, qE, qF, qG, qH]
    repeat refine K ?_
    have hr := belowF_in code f 20 (by omega)
    refine branch_intro (fun hc => ?_) (fun hc => ?_)
    · simp only [decide_eq_true_eq] at hc
      have hg := drawsF_go (code := code) (base := 0) (m := 20) (step := fun d => belowF code d 5) (N := 20) (i := j) (c := f) (acc := acc) (by omega) (by omega)
      rw [hg] at hd
      simp only [go_sem, qA, qB, qC, qD, qE, qF, qG, qH, wrap_succ (i := j) (by omega), hl]
      repeat refine K ?_
      refine CA [(0, 11)] (l1Below_ok code (belowF code f 20).2 5 hb) ?_
      try simp only [go_sem, qA, qB, qC, qD, qE, qF, qG, qH]
      repeat refine K ?_
      try simp only [go_sem, qA, qB, qC, qD, qE, qF, qG, qH, wrap_succ (i := j) (by omega), hl]
      repeat refine K ?_
      refine back_intro (j + 1, (belowF code (belowF code f 20).2 5).2, acc ++ [(belowF code (belowF code f 20).2 5).1]) ?_ ⟨by simp only; omega, by simp only [List.length_append, hl]; rfl, hd⟩ (by simp only; omega)
      refine Sub.shape [] (fun n => if n = 16 then 18 else n) (by omega) ?_ ?_ ?_ ?_ <;> simp [ints_rep]
      exact .inl (ints_snoc _ _)
    · simp only [decide_eq_false_iff_not] at hc
      rw [drawsF_stop (by omega)] at hd
      have hp : bpicksF code d = (acc, (belowF code f 20).2) := hd.symm
      simp only [go_sem, qA, qB, qC, qD, qE, qF, qG, qH]
      repeat refine K ?_
      rw [hp]
      apply fin_tup (by simp)
      · exact Sub.refl _
      · simp [-List.drop_one, -gD, hl] <;> (first | rfl | exact ⟨rfl, rfl⟩ | exact ⟨rfl, rfl, rfl⟩ | skip)

/-- All numbers of a source are numbers of 64 bits. -/
structure SrcNum (s : Source) : Prop where
  regs : ∀ t ∈ s.ths, ∀ x ∈ t.regs, i64 x
  chs : ∀ c ∈ s.chs, ∀ x ∈ c.list, i64 x
  tr : ∀ n ∈ s.tr, i64 n.v
theorem wrap_congr {n m : Int} (h : n % (2 ^ 64 : Int) = m % (2 ^ 64 : Int)) : IntKind.i64.wrap n = IntKind.i64.wrap m := by
  unfold IntKind.wrap
  have h' : n % (2 ^ IntKind.i64.bits : Int) = m % (2 ^ IntKind.i64.bits : Int) := h
  simp only [h']
theorem wrap_i64 (n : Int) : i64 (IntKind.i64.wrap n) := by
  have h1 : 0 ≤ n % (2 ^ 64 : Int) := Int.emod_nonneg _ (by decide)
  have h2 : n % (2 ^ 64 : Int) < 2 ^ 64 := Int.emod_lt_of_pos _ (by decide)
  unfold i64
  by_cases h : (2 ^ 63 : Int) ≤ n % (2 ^ 64 : Int)
  · have e : IntKind.i64.wrap n = n % (2 ^ 64 : Int) - 2 ^ 64 := by
      rw [wrap_congr (m := n % (2 ^ 64 : Int) - 2 ^ 64) (by omega)]
      exact wrap64 (by omega) (by omega)
    rw [e]
    omega
  · have e : IntKind.i64.wrap n = n % (2 ^ 64 : Int) := by
      rw [wrap_congr (m := n % (2 ^ 64 : Int)) (by omega)]
      exact wrap64 (by omega) (by omega)
    rw [e]
    omega
theorem i64_small {n : Int} (h0 : -1000000000 ≤ n) (h1 : n ≤ 1000000000) : i64 n := by unfold i64; omega
theorem i64_numb (b : Bool) : i64 (numb b) := by cases b <;> exact i64_small (by decide) (by decide)
theorem i64_getD {l : List Int} (h : ∀ x ∈ l, i64 x) (i : Nat) : i64 (l.getD i 0) := by
  by_cases hi : i < l.length
  · exact h _ (getD_mem l i 0 hi)
  · rw [List.getD_eq_getElem?_getD, List.getElem?_eq_none (by omega)]
    exact i64_small (by decide) (by decide)
theorem i64_set {l : List Int} (h : ∀ x ∈ l, i64 x) (i : Nat) {v : Int} (hv : i64 v) : ∀ x ∈ l.set i v, i64 x := fun x hx => by
  rcases List.mem_or_eq_of_mem_set hx with hx | rfl
  · exact h x hx
  · exact hv
theorem compute_i64 (op a b : Int) : i64 (compute op a b) := by
  unfold compute
  split
  · exact wrap_i64 _
  · split
    · exact wrap_i64 _
    · exact i64_numb _
theorem goTo_num {p : Prog} {s : Source} (h : SrcNum s) (i : Nat) {t : Thread} (ht : ∀ x ∈ t.regs, i64 x) (ok : Bool) (next : Int) : SrcNum (goTo p s i t ok next) := by
  have hset : ∀ u : Thread, u.regs = t.regs → ∀ t' ∈ s.ths.set i u, ∀ x ∈ t'.regs, i64 x := fun u hu t' h' => by
    rcases List.mem_or_eq_of_mem_set h' with h' | rfl
    · exact h.regs t' h'
    · rw [hu]; exact ht
  unfold goTo
  split
  · exact ⟨hset _ rfl, h.chs, h.tr⟩
  · exact ⟨hset _ rfl, h.chs, h.tr⟩
theorem send_num {c : Chan} {v : Int} (h : ∀ x ∈ c.list, i64 x) (hv : i64 v) : ∀ x ∈ (chanSend c v).1.list, i64 x := by
  unfold chanSend
  split
  · exact h
  · split
    · exact h
    · intro x hx
      rcases List.mem_append.1 hx with hx | hx
      · exact h x hx
      · rw [List.mem_singleton.1 hx]; exact hv
theorem take_num {c : Chan} (h : ∀ x ∈ c.list, i64 x) : (∀ x ∈ (chanTake c).1.list, i64 x) ∧ i64 (chanTake c).2.1 := by
  have h0 : i64 0 := i64_small (by decide) (by decide)
  unfold chanTake
  split
  · exact ⟨h, h0⟩
  · split
    · exact ⟨fun x hx => h x (List.mem_of_mem_drop hx), i64_getD h 0⟩
    · split
      · exact ⟨h, h0⟩
      · exact ⟨h, h0⟩
theorem close_num {c : Chan} (h : ∀ x ∈ c.list, i64 x) : ∀ x ∈ (chanClose c).1.list, i64 x := by
  unfold chanClose
  split <;> exact h
theorem setReg_num {t : Thread} (h : ∀ x ∈ t.regs, i64 x) (r : Int) {v : Int} (hv : i64 v) : ∀ x ∈ (setReg t r v).regs, i64 x := i64_set h _ hv
theorem chanStep_num {t : Thread} {c : Chan} {x : Ins} (ht : ∀ y ∈ t.regs, i64 y) (hc : ∀ y ∈ c.list, i64 y) : (∀ y ∈ (chanStep t c x).1.regs, i64 y) ∧ ∀ y ∈ (chanStep t c x).2.1.list, i64 y := by
  have h2 : i64 2 := i64_small (by decide) (by decide)
  unfold chanStep
  split
  · refine ⟨?_, send_num hc (i64_getD ht _)⟩
    simp only
    split
    · exact setReg_num ht _ (i64_numb _)
    · exact ht
  · split
    · have h3 := take_num hc
      refine ⟨?_, h3.1⟩
      simp only
      split
      · exact setReg_num (setReg_num (setReg_num ht _ h3.2) _ (i64_numb _)) _ h2
      · exact setReg_num (setReg_num ht _ h3.2) _ (i64_numb _)
    · exact ⟨ht, close_num hc⟩
theorem ins_ok {p : Prog} {s : Source} {i : Nat} (h : sourceOk p s = true) (hi : i < s.ths.length) : insOk (ins p s i) (p.bods.getD i []).length p.caps.length = true := by
  have ha := at_of h hi
  have hp := ((sourceOk_iff p s).1 h).1
  unfold progOk at hp
  simp only [Bool.and_eq_true, List.all_eq_true] at hp
  have hb := hp.1.1.1 _ (getD_mem p.bods i [] ha.hb)
  unfold bodyOk at hb
  simp only [Bool.and_eq_true, List.all_eq_true] at hb
  exact hb.1.2 _ (getD_mem _ _ _ ha.at1)
theorem doStep_num {p : Prog} {s : Source} {i : Nat} (h : sourceOk p s = true) (hi : i < s.ths.length) (hn : SrcNum s) : SrcNum (doStep p s i) := by
  have hx := ins_ok h hi
  have ht := hn.regs _ (getD_mem s.ths i default hi)
  unfold doStep
  split
  · rename_i h1
    refine goTo_num hn i (setReg_num ht _ ?_) _ _
    unfold insOk at hx
    simp [h1, within_iff, -List.getD_eq_getElem?_getD] at hx
    exact i64_small (by omega) (by omega)
  · split
    · exact goTo_num hn i (setReg_num ht _ (compute_i64 _ _ _)) _ _
    · split
      · refine goTo_num (s := ⟨s.ths, s.chs, s.tr ++ [⟨i, reg (s.ths.getD i default) (ins p s i).a⟩]⟩) ⟨hn.regs, hn.chs, fun n hm => ?_⟩ i ht _ _
        rcases List.mem_append.1 hm with hm | hm
        · exact hn.tr n hm
        · rw [List.mem_singleton.1 hm]
          exact i64_getD ht _
      · split
        · exact goTo_num hn i ht _ _
        · split
          · exact goTo_num hn i ht _ _
          · split
            · refine ⟨fun t hm => ?_, hn.chs, hn.tr⟩
              rcases List.mem_or_eq_of_mem_set hm with hm | rfl
              · exact hn.regs t hm
              · exact ht
            · have hcl : ∀ y ∈ (s.chs.getD (ins p s i).n.toNat default).list, i64 y := by
                by_cases hj : (ins p s i).n.toNat < s.chs.length
                · exact hn.chs _ (getD_mem _ _ _ hj)
                · rw [List.getD_eq_getElem?_getD, List.getElem?_eq_none (by omega)]
                  intro y hy
                  exact absurd hy (by simp [default, instInhabitedChan.default])
              have hcs := chanStep_num (x := ins p s i) ht hcl
              refine goTo_num (s := ⟨s.ths, s.chs.set (ins p s i).n.toNat (chanStep (s.ths.getD i default) (s.chs.getD (ins p s i).n.toNat default) (ins p s i)).2.1, s.tr⟩) ⟨hn.regs, fun c hm => ?_, hn.tr⟩ i hcs.1 _ _
              rcases List.mem_or_eq_of_mem_set hm with hm | rfl
              · exact hn.chs c hm
              · exact hcs.2
theorem sourceStep_num {p : Prog} {s : Source} (who : Int) (h : sourceOk p s = true) (hn : SrcNum s) : SrcNum (sourceStep p s who).1 := by
  unfold sourceStep
  split
  · rename_i hc
    exact doStep_num h (code_in hc).2 hn
  · exact hn
theorem runFold_num {p : Prog} {s : Source} (h : sourceOk p s = true) (hn : SrcNum s) (picks : List Int) : ∀ i, i ≤ picks.length → SrcNum ((picks.take i).foldl (runStep p) (s, [])).1
  | 0, _ => hn
  | i + 1, hi => by
    have ih := runFold_num h hn picks i (by omega)
    rw [run_fold p picks i (by omega)]
    exact sourceStep_num _ (runFold_ok h picks i (by omega)).1 ih
theorem sourceRun_num {p : Prog} {s : Source} (picks : List Int) (h : sourceOk p s = true) (hn : SrcNum s) : SrcNum (sourceRun p s picks).1 := by
  unfold sourceRun
  split
  · have := runFold_num h hn picks picks.length (Nat.le_refl _)
    rw [List.take_length] at this
    exact this
  · exact hn
theorem sourceNew_num (p : Prog) : SrcNum (sourceNew p).1 := by
  have h0 : i64 0 := i64_small (by decide) (by decide)
  unfold sourceNew
  split
  · refine ⟨fun t ht => ?_, fun c hc => ?_, fun n hn => by simp at hn⟩
    · rw [List.eq_of_mem_replicate ht]
      intro x hx
      simp [thread0] at hx
      rw [hx]; exact h0
    · simp only [List.mem_map] at hc
      obtain ⟨a, _, rfl⟩ := hc
      intro x hx
      simp at hx
  · exact ⟨fun t ht => by simp at ht, fun c hc => by simp at hc, fun n hn => by simp at hn⟩
theorem srcIn_of {p : Prog} {s : Source} (h : sourceOk p s = true) (hn : SrcNum s) : SrcIn s := by
  have hk := (sourceOk_iff p s).1 h
  have hl := notesOk_len h
  refine ⟨fun t ht => ?_, hn.chs, fun n hm => ?_⟩
  · obtain ⟨i, hi, rfl⟩ := List.getElem_of_mem ht
    have ha := at_of h hi
    have e : s.ths.getD i default = s.ths[i] := by simp [List.getD_eq_getElem?_getD, hi]
    have h0 := ha.at0
    have h1 := ha.at1
    have h2 := ha.len
    have hto := hk.2.2.2.2.1 i hi
    unfold threadOk at hto
    simp only [Bool.and_eq_true, decide_eq_true_eq, within_iff] at hto
    rw [e] at h0 h1 hto
    exact ⟨i64_small (by omega) (by omega), i64_small (by omega) (by omega), hn.regs _ ht⟩
  · refine ⟨?_, hn.tr n hm⟩
    have h4 := hk.2.2.2.1
    unfold notesOk at h4
    simp only [Bool.and_eq_true, List.all_eq_true, within_iff] at h4
    have h5 := h4.1 n hm
    have h6 := hk.2.1
    have h7 : p.bods.length ≤ 4 := by
      have := hk.1
      unfold progOk at this
      simp only [Bool.and_eq_true, within_iff] at this
      omega
    exact i64_small (by omega) (by omega)
theorem implOf_back {p : Prog} {s : Source} (h : sourceOk p s = true) (hn : SrcNum s) : implOf p (srcBytes s) = (s, true) := by
  have hb := parse_back h (srcIn_of h hn)
  have hp := ((sourceOk_iff p s).1 h).1
  unfold implOf
  rw [hb]
  rw [if_pos ⟨hp, rfl, h, rfl⟩]
theorem foldl_fst {p : Prog} (l : List Int) : ∀ (st : Source × List Int) (cs : List Int), (l.foldl (runStep p) st).1 = (l.foldl (runStep p) (st.1, cs)).1 := by
  induction l with
  | nil => intro st cs; rfl
  | cons a l ih =>
    intro st cs
    simp only [List.foldl_cons]
    rw [ih (runStep p st a) (runStep p (st.1, cs) a).2]
    rfl
theorem sourceRun_split {p : Prog} {s : Source} (h : sourceOk p s = true) (picks : List Int) (k : Nat) (hk : picks.length ≤ 4000) :
    (sourceRun p (sourceRun p s (picks.take k)).1 (picks.drop k)).1 = (sourceRun p s picks).1 := by
  have h1 := sourceRun_keeps (picks.take k) h
  have l1 : (picks.take k).length ≤ 4000 := by simp; omega
  have l2 : (picks.drop k).length ≤ 4000 := by simp; omega
  have e : ∀ (u : Source) (l : List Int), sourceOk p u = true → l.length ≤ 4000 → (sourceRun p u l).1 = (l.foldl (runStep p) (u, [])).1 := fun u l hu hl => by
    unfold sourceRun runF
    rw [if_pos (by simp [hu]; omega)]
  rw [e _ _ h1 l2, e _ _ h l1, e _ _ h hk, ← foldl_fst (picks.drop k) ((picks.take k).foldl (runStep p) (s, [])) [], ← List.foldl_append, List.take_append_drop]
theorem resumed_law {p : Prog} {s : Source} (h : sourceOk p s = true) (hn : SrcNum s) (picks : List Int) (k : Nat) (hk : picks.length ≤ 4000) :
    resume p (srcBytes (sourceRun p s (picks.take k)).1) (picks.drop k) = (srcBytes (sourceRun p s picks).1, true) := by
  have h1 := sourceRun_keeps (picks.take k) h
  unfold resume
  rw [implOf_back h1 (sourceRun_num _ h hn)]
  simp only [if_true]
  rw [sourceRun_split h picks k hk]

theorem big_ok (code : List Int) : CallOk Try.prog num 19 [.sl .bw 1 (bys code)] [] (.bool (decide ((1048576 : Int) < code.length))) := by
  refine enter (m := m19) (f := 19) (fn := Try.f27) Try.func27 (by kernel_rfl) rfl c19 rfl (by simp [Try.f27]) (by simp [bnds, bnd, nf_sl, nf_int, nf_bool, nf_str, ints_bnd]) (fun _ _ h => by simp [preH, look] at h) ?_
  unfold m19
  simp only [go_sem, qA, qB, qC, qD, qE, qF, qG, qH]
  repeat refine K ?_
  refine ⟨_, Sub.refl _, ?_⟩; simp [FinS, nilL, nilV, oneOr, -List.drop_one]


theorem bytes_in (l : List UInt8) : ∀ x ∈ l.map (fun n => (n.toNat : Int)), isByte x := fun x hx => by
  obtain ⟨n, _, rfl⟩ := List.mem_map.1 hx
  have := n.toNat_lt
  exact ⟨by omega, by omega⟩
def atF (code : List Int) (i : Nat) : Int := if i < code.length then code.getD i 0 else Int.tmod ((i : Int) * 7 + code.length) 256
theorem at_ok (code : List Int) (i : Nat) (hb : code.length < 2 ^ 62) (hi : i < 2 ^ 30) (hby : ∀ x ∈ code, isByte x) : CallOk Try.prog num 184 [.sl .bw 1 (bys code), .int .i64 i] [] (.int .i64 (atF code i)) := by
  refine enter (m := m184) (f := 184) (fn := Try.f54) Try.func54 (by kernel_rfl) rfl c184 rfl (by simp [Try.f54]) (by simp [bnds, bnd, nf_sl, nf_int, nf_bool, nf_str, ints_bnd]) (fun _ _ h => by simp [preH, look] at h) ?_
  unfold m184
  by_cases h : i < code.length
  · have hx := hby _ (getD_mem code i 0 h)
    unfold isByte at hx
    have q : IntKind.i64.wrap (code.getD i 0) = code.getD i 0 := wrap64 (by omega) (by omega)
    have hh : (i : Int) < code.length := by omega
    simp only [go_sem, qA, qB, qC, qD, qE, qF, qG, qH, hh, bys_getD code i h, q]
    repeat refine K ?_
    refine ⟨_, Sub.refl _, ?_⟩; simp [FinS, nilL, nilV, oneOr, -List.drop_one]
    simp [atF, h]
  · have hh : ¬ (i : Int) < code.length := by omega
    have q1 : IntKind.i64.wrap ((i : Int) * 7) = (i : Int) * 7 := wrap64 (by omega) (by omega)
    have q2 : IntKind.i64.wrap ((i : Int) * 7 + code.length) = (i : Int) * 7 + code.length := wrap64 (by omega) (by omega)
    have q3 : IntKind.i64.wrap (Int.tmod ((i : Int) * 7 + code.length) 256) = Int.tmod ((i : Int) * 7 + code.length) 256 := by
      have h1 := Int.tmod_nonneg (a := (i : Int) * 7 + code.length) 256 (by omega)
      have h2 := Int.tmod_lt_of_pos ((i : Int) * 7 + code.length) (b := 256) (by omega)
      exact wrap64 (by omega) (by omega)
    simp only [go_sem, qA, qB, qC, qD, qE, qF, qG, qH, hh, q1, q2, q3]
    repeat refine K ?_
    refine ⟨_, Sub.refl _, ?_⟩; simp [FinS, nilL, nilV, oneOr, -List.drop_one]
    simp [atF, h]
theorem atF_pos (code : List Int) (i : Nat) (hby : ∀ x ∈ code, isByte x) : 0 ≤ atF code i ∧ atF code i < 256 := by
  unfold atF
  split
  · rename_i h
    have hx := hby _ (getD_mem code i 0 h)
    unfold isByte at hx
    omega
  · exact ⟨Int.tmod_nonneg _ (by omega), Int.tmod_lt_of_pos _ (by omega)⟩
theorem bytesAt_ok (code : List Int) {b : List Int} (h : ∀ x ∈ b, isByte x) (k : Int) (c : Cur) : (bytesAt code b k c).1.length ≤ b.length + 1 ∧ ∀ x ∈ (bytesAt code b k c).1, isByte x := by
  unfold bytesAt
  split
  · refine ⟨?_, fun x hx => h x (List.mem_of_mem_take hx)⟩
    rw [List.length_take]
    omega
  · split
    · refine ⟨by simp, fun x hx => ?_⟩
      rcases List.mem_append.1 hx with hx | hx
      · exact h x hx
      · rw [List.mem_singleton.1 hx]
        exact ⟨by decide, by decide⟩
    · split
      · refine ⟨by simp, fun x hx => ?_⟩
        rcases List.mem_or_eq_of_mem_set hx with hx | rfl
        · exact h x hx
        · exact u8_in _
      · exact ⟨Nat.le_succ _, h⟩
theorem resumeDraw_ok (code : List Int) : progOk (resumeDraw code).1.1 = true ∧ (resumeDraw code).1.2.length ≤ 100001 ∧ (∀ x ∈ (resumeDraw code).1.2, isByte x) ∧ (resumeDraw code).2.length ≤ 20 := by
  have hr := runDrawF_ok code (newF code)
  have hl := srcBytes_len (srcSz_ok hr.2)
  have hb := bytesAt_ok code (srcBytes_in (runDrawF code (newF code)).1.2) (belowF code (runDrawF code (newF code)).2 6).1 (belowF code (runDrawF code (newF code)).2 6).2
  refine ⟨hr.1, ?_, hb.2, ?_⟩
  · have e : (resumeDraw code).1.2 = (bytesAt code (srcBytes (runDrawF code (newF code)).1.2) (belowF code (runDrawF code (newF code)).2 6).1 (belowF code (runDrawF code (newF code)).2 6).2).1 := rfl
    rw [e]
    omega
  · have := (drawsF_length (code := code) (base := 0) (m := 20) (step := fun d => belowF code d 5) 20 0 (bytesF code (newF code)).2 []).2
    simpa [resumeDraw, bpicksF] using this
set_option maxHeartbeats 8000000 in
theorem fnResumed_ok (code : List Int) (hby : ∀ x ∈ code, isByte x) : CallOk Try.prog num 180 [.sl .fz 1 (bys code)] [] (.bool true) := by
  refine enter (m := m180) (f := 180) (fn := Try.f9) Try.func9 (by kernel_rfl) rfl c180 rfl (by simp [Try.f9]) (by simp [bnds, bnd, nf_sl, nf_int, nf_bool, nf_str, ints_bnd]) (fun _ _ h => by simp [preH, look] at h) ?_
  unfold m180
  simp only [go_sem, qA, qB, qC, qD, qE, qF, qG, qH]
  repeat refine K ?_
  refine CA [] (big_ok code) ?_
  try simp only [go_sem, qA, qB, qC, qD, qE, qF, qG, qH]
  repeat refine K ?_
  by_cases hbig : (1048576 : Int) < code.length
  · try simp only [go_sem, qA, qB, qC, qD, qE, qF, qG, qH, hbig]
    repeat refine K ?_
    refine ⟨_, Sub.refl _, ?_⟩; simp [FinS, nilL, nilV, oneOr, -List.drop_one]
  have hb : code.length < 2 ^ 62 := by omega
  try simp only [go_sem, qA, qB, qC, qD, qE, qF, qG, qH, hbig]
  repeat refine K ?_
  refine CA [] (drawOrdered_ok code hb) ?_
  try simp only [go_sem, qA, qB, qC, qD, qE, qF, qG, qH]
  repeat refine K ?_
  obtain ⟨hpk, hol⟩ := orderedF_ok code
  generalize orderedF code = w at hpk hol
  obtain ⟨p, order⟩ := w
  simp only at hpk hol ⊢
  have hpp := smallP_of hpk
  try simp only [go_sem, qA, qB, qC, qD, qE, qF, qG, qH]
  repeat refine K ?_
  refine CA [] (implSourceNew_ok p hpp.caps hpp.bods (fun b hb => by have := hpp.body b hb; omega)) ?_
  try simp only [go_sem, qA, qB, qC, qD, qE, qF, qG, qH]
  repeat refine K ?_
  have hn1 := sourceNew_ok hpk
  have hn2 : (sourceNew p).2 = true := by simp [sourceNew, hpk]
  have hn3 := sourceNew_num p
  have hn4 : ((sourceNew p).1, true) = sourceNew p := by rw [← hn2]
  generalize (sourceNew p).1 = s0 at hn1 hn3
  try simp only [go_sem, qA, qB, qC, qD, qE, qF, qG, qH, hn2]
  repeat refine K ?_
  refine CA [] (drawResume_ok code hb) ?_
  try simp only [go_sem, qA, qB, qC, qD, qE, qF, qG, qH]
  repeat refine K ?_
  obtain ⟨r1, r2, r3, r4⟩ := resumeDraw_ok code
  generalize resumeDraw code = z at r1 r2 r3 r4
  obtain ⟨⟨q, bs⟩, picks⟩ := z
  simp only at r1 r2 r3 r4 ⊢
  have hqq := smallP_of r1
  have ci := implResume_ok q bs picks hqq (by omega) r3 (by omega)
  have cs := specResume_ok q bs picks hqq (by omega) r3 (by omega)
  generalize resume q bs picks = u at ci cs
  have eb : (u.2 == u.2) = true := by simp
  try simp only [go_sem, qA, qB, qC, qD, qE, qF, qG, qH]
  repeat refine K ?_
  refine CA [] (ci) ?_
  try simp only [go_sem, qA, qB, qC, qD, qE, qF, qG, qH]
  repeat refine K ?_
  try simp only [go_sem, qA, qB, qC, qD, qE, qF, qG, qH]
  repeat refine K ?_
  refine CA [] (cs) ?_
  try simp only [go_sem, qA, qB, qC, qD, qE, qF, qG, qH]
  repeat refine K ?_
  try simp only [go_sem, qA, qB, qC, qD, qE, qF, qG, qH, bytesOf_bys, eb]
  repeat refine K ?_
  have ha := atF_pos code 1 hby
  refine CA [] (at_ok code 1 hb (by decide) hby) ?_
  try simp only [go_sem, qA, qB, qC, qD, qE, qF, qG, qH]
  repeat refine K ?_
  have hk0 : 0 ≤ Int.tmod (atF code 1) ((order.length : Int) + 1) := Int.tmod_nonneg _ ha.1
  have hk1 : Int.tmod (atF code 1) ((order.length : Int) + 1) < (order.length : Int) + 1 := Int.tmod_lt_of_pos _ (by omega)
  have w1 : IntKind.i64.wrap ((order.length : Int) + 1) = (order.length : Int) + 1 := wrap64 (by omega) (by omega)
  have w3 : IntKind.i64.wrap (Int.tmod (atF code 1) ((order.length : Int) + 1)) = Int.tmod (atF code 1) ((order.length : Int) + 1) := wrap64 (by omega) (by omega)
  obtain ⟨k, hk⟩ := Int.eq_ofNat_of_zero_le hk0
  rw [hk] at hk1 w3
  have w2 : IntKind.i64.wrap (Int.tmod (atF code 1) ((order.length : Int) + 1)) = (k : Int) := by rw [hk]; exact w3
  clear w3
  have p1 : (if order.length = k then ints order else ints (order.take k)) = ints (order.take k) := by
    split
    · rename_i h
      rw [← h, List.take_length]
    · rfl
  have p2 : (ints (order.drop k)).take (order.length - k) = ints (order.drop k) := by
    rw [List.take_of_length_le]
    rw [ints_length, List.length_drop]
    exact Nat.le_refl _
  have hkl : k ≤ order.length := by omega
  have hm := sourceRun_keeps (order.take k) hn1
  have he := sourceRun_keeps order hn1
  have hzm := (srcSz_ok hm).mono (m := 2097152) (by omega)
  have hze := (srcSz_ok he).mono (m := 2097152) (by omega)
  have cm := implSourceRun_ok p s0 (order.take k) hpp (small_of hn1) (by rw [List.length_take]; omega)
  have ce := implSourceRun_ok p s0 order hpp (small_of hn1) (by omega)
  have sm := implSaved_ok p (sourceRun p s0 (order.take k)).1 hpp hzm
  have se := implSaved_ok p (sourceRun p s0 order).1 hpp hze
  rw [if_pos hm] at sm
  rw [if_pos he] at se
  have hsl := srcBytes_len (srcSz_ok hm)
  have hlw := resumed_law hn1 hn3 order k (by omega)
  have cr := implResume_ok p (srcBytes (sourceRun p s0 (order.take k)).1) (order.drop k) hpp (by omega) (srcBytes_in _) (by rw [List.length_drop]; omega)
  rw [hlw] at cr
  clear hlw hzm hze
  generalize sourceRun p s0 (order.take k) = M at hm cm sm hsl cr
  generalize sourceRun p s0 order = E at he ce se cr
  generalize srcBytes M.1 = bm at sm hsl cr
  generalize srcBytes E.1 = be at se cr
  try simp only [go_sem, qA, qB, qC, qD, qE, qF, qG, qH, w1, w2]
  repeat refine K ?_
  refine ⟨?_, ?_⟩
  all_goals
    repeat refine K ?_
    refine DA [] (cm) ?_
    try simp only [go_sem, qA, qB, qC, qD, qE, qF, qG, qH]
    repeat refine K ?_
    try simp only [go_sem, qA, qB, qC, qD, qE, qF, qG, qH]
    repeat refine K ?_
    refine CA [] (ce) ?_
    try simp only [go_sem, qA, qB, qC, qD, qE, qF, qG, qH]
    repeat refine K ?_
    try simp only [go_sem, qA, qB, qC, qD, qE, qF, qG, qH]
    repeat refine K ?_
    refine DA [] (sm) ?_
    try simp only [go_sem, qA, qB, qC, qD, qE, qF, qG, qH]
    repeat refine K ?_
    try simp only [go_sem, qA, qB, qC, qD, qE, qF, qG, qH]
    repeat refine K ?_
    refine DA [] (cr) ?_
    try simp only [go_sem, qA, qB, qC, qD, qE, qF, qG, qH]
    repeat refine K ?_
    try simp only [go_sem, qA, qB, qC, qD, qE, qF, qG, qH, bytesOf_bys]
    repeat refine K ?_
    refine DA [] (se) ?_
    try simp only [go_sem, qA, qB, qC, qD, qE, qF, qG, qH]
    repeat refine K ?_
    try simp only [go_sem, qA, qB, qC, qD, qE, qF, qG, qH, bytesOf_bys]
    repeat refine K ?_
    refine ⟨_, Sub.refl _, ?_⟩; simp [FinS, nilL, nilV, oneOr, -List.drop_one]


end Go.Sep
