/- Contracts of functions. -/
import Derived.Test.YtoijhndfkfliiaaConl
namespace Go.Sep
open Go.Proofs
set_option linter.unusedSimpArgs false
set_option linter.unusedVariables false
set_option maxRecDepth 100000
def m152 : MFn := ⟨22, [.t 2], .seq (xr [xo 2 (.mv (.c (.nil)))]) (.seq (xr [xv 5 0, xo 6 (.len (.t 5)), xo 7 (.mkS [.int .u8 0] 1 (.t 6) (.t 6)), xv 3 7]) (.seq (.seq (xr [xo 4 (.mv (xi 0))]) (.blk 0 (.loop (.seq (.seq (xr [xv 8 4, xv 9 0, xo 10 (.len (.t 9)), xo 11 (.bin .lss (.t 8) (.t 10))]) (.cond 11 (.skip) (.exit 0))) (.seq (.blk 1 (xr [xv 14 3, xv 15 4, xv 16 0, xv 17 4, xo 18 (.iad 1 (.t 16) (.t 17)), xo 19 (.load 1 false (.t 18)), xo 20 (.iad 1 (.t 14) (.t 15)), ⟨none, .store 1 (.t 20) (.t 19), none⟩])) (xr [xv 12 4, xo 13 (.bin .add (.t 12) (xi 1)), xv 4 13])))))) (.seq (xr [xv 21 3, xv 2 21]) (.ret))))⟩
theorem c152 : chkC Try.prog num Try.f18.ntmps m152.body ((Try.f18.body).getD .skip) = true := by kernel_rfl
def m155 : MFn := ⟨26, [.t 4], .seq (xr [xo 4 (.mv (.c (.bool false)))]) (.seq (.seq (xr [xv 6 0, xo 7 (.len (.t 6)), xv 8 1, xo 9 (.len (.t 8)), xo 10 (.bin .neq (.t 7) (.t 9))]) (.cond 10 (.seq (xr [xo 4 (.mv (.c (.bool false)))]) (.ret)) (.skip))) (.seq (.seq (xr [xo 5 (.mv (xi 0))]) (.blk 0 (.loop (.seq (.seq (xr [xv 11 5, xv 12 0, xo 13 (.len (.t 12)), xo 14 (.bin .lss (.t 11) (.t 13))]) (.cond 14 (.skip) (.exit 0))) (.seq (.blk 1 (.seq (.dreg (.take 0 (xv 17 0) (.take 1 (xv 18 5) (.take 2 (xo 19 (.iad 1 (.t 17) (.t 18))) (.take 3 (xo 20 (.load 1 false (.t 19))) (.take 4 (xv 21 1) (.only 5 [] (xv 22 5) (.only 6 [4] (xo 23 (.iad 1 (.t 21) (.t 22))) (.only 7 [] (xo 24 (.load 1 false (.t 23))) (.only 8 [3] (xo 25 (.bin .neq (.t 20) (.t 24))) (.done))))))))))) (.cond 25 (.seq (xr [xo 4 (.mv (.c (.bool false)))]) (.ret)) (.skip)))) (xr [xv 15 5, xo 16 (.bin .add (.t 15) (xi 1)), xv 5 16])))))) (.seq (xr [xo 4 (.mv (.c (.bool true)))]) (.ret))))⟩
theorem c155 : chkC Try.prog num Try.f22.ntmps m155.body ((Try.f22.body).getD .skip) = true := by kernel_rfl
def m156 : MFn := ⟨20, [.t 4], .seq (xr [xo 4 (.mv (xi 0))]) (.seq (.seq (xr [xo 5 (.mv (xi 0))]) (.blk 0 (.loop (.seq (.seq (xr [xv 6 5, xv 7 0, xo 8 (.len (.t 7)), xo 9 (.bin .lss (.t 6) (.t 8))]) (.cond 9 (.skip) (.exit 0))) (.seq (.blk 1 (.seq (xr [xv 12 0, xv 13 5, xv 14 1, xo 15 (.cvi .u8 (.t 14)), xo 16 (.iad 1 (.t 12) (.t 13)), ⟨none, .store 1 (.t 16) (.t 15), none⟩]) (xr [xv 17 1, xo 18 (.bin .add (.t 17) (xi 1)), xv 1 18]))) (xr [xv 10 5, xo 11 (.bin .add (.t 10) (xi 1)), xv 5 11])))))) (.seq (xr [xv 19 1, xv 4 19]) (.ret)))⟩
theorem c156 : chkC Try.prog num Try.f24.ntmps m156.body ((Try.f24.body).getD .skip) = true := by kernel_rfl
def m187 : MFn := ⟨22, [.t 4], .seq (xr [xo 4 (.mv (xi 0))]) (.seq (.seq (xr [xo 5 (.mv (xi 0))]) (.blk 0 (.loop (.seq (.seq (xr [xv 6 5, xv 7 0, xo 8 (.len (.t 7)), xo 9 (.bin .lss (.t 6) (.t 8))]) (.cond 9 (.skip) (.exit 0))) (.seq (.blk 1 (.seq (.seq (xr [xv 12 0, xv 13 5, xo 14 (.iad 1 (.t 12) (.t 13)), xo 15 (.load 1 false (.t 14)), xv 16 1, xo 17 (.cvi .u8 (.t 16)), xo 18 (.bin .neq (.t 15) (.t 17))]) (.cond 18 (.seq (xr [xo 4 (.mv (.c (.int .i64 (-1))))]) (.ret)) (.skip))) (xr [xv 19 1, xo 20 (.bin .add (.t 19) (xi 1)), xv 1 20]))) (xr [xv 10 5, xo 11 (.bin .add (.t 10) (xi 1)), xv 5 11])))))) (.seq (xr [xv 21 1, xv 4 21]) (.ret)))⟩
theorem c187 : chkC Try.prog num Try.f61.ntmps m187.body ((Try.f61.body).getD .skip) = true := by kernel_rfl
def m192 : MFn := ⟨36, [.t 2], .seq (xr [xo 2 (.mv (xi 0))]) (.seq (.dreg (.take 0 (xv 7 0) (.take 1 (xo 8 (.nilck (.t 7))) (.take 2 (xo 9 (.fad 0 (.t 8))) (.take 3 (xo 10 (.load 1 false (.t 9))) (.only 4 [] (xv 11 0) (.only 5 [] (xo 12 (.nilck (.t 11))) (.only 6 [] (xo 13 (.fad 1 (.t 12))) (.only 7 [] (xo 14 (.load 1 false (.t 13))) (.only 8 [3] (xo 15 (.call 242 [false, false] [.t 10, .t 14])) (.only 9 [] (xv 6 15) (.take 10 (xo 16 (.ext (.t 6) 0)) (.take 11 (xo 17 (.ext (.t 6) 1)) (.take 12 (xo 18 (.ext (.t 6) 2)) (.only 13 [0, 1, 2, 3, 10] (xv 3 16) (.only 14 [0, 1, 2, 3, 10, 11] (xv 4 17) (.only 15 [0, 1, 2, 3, 10, 11, 12] (xv 5 18) (.done)))))))))))))))))) (.seq (.seq (xr [xv 19 5, xo 20 (.un .«not» (.t 19)), xv 21 20, xg 22 (.mv (.t 0)) 21 false, xg 23 (.nilck (.t 22)) 21 false, xg 24 (.fad 2 (.t 23)) 21 false, xg 25 (.load 1 false (.t 24)) 21 false, xg 26 (.un .«not» (.t 25)) 21 false, xo 27 (.pick (.t 21) (.c (.bool true)) (.t 26))]) (.cond 27 (.seq (xr [xv 28 0, xo 29 (.nilck (.t 28)), xo 30 (.fad 2 (.t 29)), ⟨none, .store 1 (.t 30) (.c (.bool false)), none⟩]) (.seq (xr [xo 2 (.mv (xi 0))]) (.ret))) (.skip))) (.seq (xr [xv 31 0, xv 32 4, xo 33 (.nilck (.t 31)), xo 34 (.fad 1 (.t 33)), ⟨none, .store 1 (.t 34) (.t 32), none⟩]) (.seq (xr [xv 35 3, xv 2 35]) (.ret)))))⟩
theorem c192 : chkC Try.prog num Try.f71.ntmps m192.body ((Try.f71.body).getD .skip) = true := by kernel_rfl
def m193 : MFn := ⟨25, [.t 4], .seq (xr [xo 4 (.mv (.c (.nil)))]) (.seq (xr [xo 7 (.mkSl [xz] 0 []), xv 5 7]) (.seq (.seq (xr [xo 6 (.mv (xi 0))]) (.blk 0 (.loop (.seq (.seq (xr [xv 8 6, xv 9 1, xo 10 (.bin .lss (.t 8) (.t 9)), xv 11 10, xg 12 (.mv (.t 0)) 11 true, xg 13 (.nilck (.t 12)) 11 true, xg 14 (.fad 2 (.t 13)) 11 true, xg 15 (.load 1 false (.t 14)) 11 true, xo 16 (.pick (.t 11) (.t 15) (.c (.bool false)))]) (.cond 16 (.skip) (.exit 0))) (.seq (.blk 1 (xr [xv 19 5, xv 20 0, xo 21 (.call 192 [true] [.t 20]), xo 22 (.mkSl [xz] 1 [(0, .t 21)]), xo 23 (.app 1 8 (.t 19) (.t 22)), xv 5 23])) (xr [xv 17 6, xo 18 (.bin .add (.t 17) (xi 1)), xv 6 18])))))) (.seq (xr [xv 24 5, xv 4 24]) (.ret))))⟩
theorem c193 : chkC Try.prog num Try.f72.ntmps m193.body ((Try.f72.body).getD .skip) = true := by kernel_rfl
def m194 : MFn := ⟨101, [.t 4], .seq (xr [xo 2 (.box (.t 0)), xo 3 (.box (.t 1)), xo 4 (.mv (.c (.nil)))]) (.seq (xr [xo 11 (.mkSl [.int .u8 0] 0 []), xv 5 11]) (.seq (.seq (xr [xo 12 (.load 2 true (.t 2)), xo 13 (.load 3 true (.t 3)), xo 14 (.call 63 [false, false] [.t 12, .t 13]), xo 15 (.un .«not» (.t 14))]) (.cond 15 (.seq (xr [xv 16 5, xv 4 16]) (.ret)) (.skip))) (.seq (.seq (xr [xo 6 (.mv (xi 0))]) (.blk 0 (.loop (.seq (.seq (xr [xv 17 6, xo 18 (.fad 0 (.t 3)), xo 19 (.load 1 false (.t 18)), xo 20 (.len (.t 19)), xo 21 (.bin .lss (.t 17) (.t 20))]) (.cond 21 (.skip) (.exit 0))) (.seq (.blk 1 (.seq (xr [xo 24 (.fad 0 (.t 3)), xo 25 (.load 1 false (.t 24)), xv 26 6, xo 27 (.iad 3 (.t 25) (.t 26)), xo 28 (.load 3 true (.t 27)), xo 7 (.alloc [.int .i64 0, .nil, .int .i64 0]), ⟨none, .store 3 (.t 7) (.t 28), none⟩]) (.seq (xr [xv 29 5, xo 30 (.fad 0 (.t 7)), xo 31 (.load 1 false (.t 30)), xo 32 (.fad 2 (.t 7)), xo 33 (.load 1 false (.t 32)), xo 34 (.mkSl [xz] 2 [(0, .t 31), (1, .t 33)]), xo 35 (.call 243 [false] [.t 34]), xo 36 (.app 1 1 (.t 29) (.t 35)), xv 5 36]) (xr [xv 37 5, xo 38 (.fad 1 (.t 7)), xo 39 (.load 1 false (.t 38)), xo 40 (.call 243 [false] [.t 39]), xo 41 (.app 1 1 (.t 37) (.t 40)), xv 5 41])))) (xr [xv 22 6, xo 23 (.bin .add (.t 22) (xi 1)), xv 6 23])))))) (.seq (.seq (xr [xo 8 (.mv (xi 0))]) (.blk 2 (.loop (.seq (.seq (xr [xv 42 8, xo 43 (.fad 1 (.t 3)), xo 44 (.load 1 false (.t 43)), xo 45 (.len (.t 44)), xo 46 (.bin .lss (.t 42) (.t 45))]) (.cond 46 (.skip) (.exit 2))) (.seq (.blk 3 (.seq (xr [xo 49 (.fad 1 (.t 3)), xo 50 (.load 1 false (.t 49)), xv 51 8, xo 52 (.iad 3 (.t 50) (.t 51)), xo 53 (.load 3 true (.t 52)), xo 9 (.alloc [.int .i64 0, .nil, .bool false]), ⟨none, .store 3 (.t 9) (.t 53), none⟩]) (.seq (xr [xv 54 5, xo 55 (.fad 1 (.t 9)), xo 56 (.load 1 false (.t 55)), xo 57 (.len (.t 56)), xo 58 (.call 244 [false] [.t 57]), xo 59 (.app 1 1 (.t 54) (.t 58)), xv 5 59]) (.seq (xr [xv 60 5, xo 61 (.fad 1 (.t 9)), xo 62 (.load 1 false (.t 61)), xo 63 (.call 243 [false] [.t 62]), xo 64 (.app 1 1 (.t 60) (.t 63)), xv 5 64]) (xr [xv 65 5, xo 66 (.fad 2 (.t 9)), xo 67 (.load 1 false (.t 66)), xo 68 (.call 85 [false] [.t 67]), xo 69 (.call 244 [false] [.t 68]), xo 70 (.app 1 1 (.t 65) (.t 69)), xv 5 70]))))) (xr [xv 47 8, xo 48 (.bin .add (.t 47) (xi 1)), xv 8 48])))))) (.seq (xr [xv 71 5, xo 72 (.fad 2 (.t 3)), xo 73 (.load 1 false (.t 72)), xo 74 (.len (.t 73)), xo 75 (.call 244 [false] [.t 74]), xo 76 (.app 1 1 (.t 71) (.t 75)), xv 5 76]) (.seq (.seq (xr [xo 10 (.mv (xi 0))]) (.blk 4 (.loop (.seq (.seq (xr [xv 77 10, xo 78 (.fad 2 (.t 3)), xo 79 (.load 1 false (.t 78)), xo 80 (.len (.t 79)), xo 81 (.bin .lss (.t 77) (.t 80))]) (.cond 81 (.skip) (.exit 4))) (.seq (.blk 5 (.dreg (.take 0 (xv 84 5) (.take 1 (xo 85 (.fad 2 (.t 3))) (.take 2 (xo 86 (.load 1 false (.t 85))) (.take 3 (xv 87 10) (.take 4 (xo 88 (.iad 2 (.t 86) (.t 87))) (.take 5 (xo 89 (.fad 0 (.t 88))) (.take 6 (xo 90 (.load 1 false (.t 89))) (.take 7 (xo 91 (.fad 2 (.t 3))) (.take 8 (xo 92 (.load 1 false (.t 91))) (.only 9 [] (xv 93 10) (.only 10 [8] (xo 94 (.iad 2 (.t 92) (.t 93))) (.only 11 [] (xo 95 (.fad 1 (.t 94))) (.only 12 [] (xo 96 (.load 1 false (.t 95))) (.only 13 [6] (xo 97 (.mkSl [xz] 2 [(0, .t 90), (1, .t 96)])) (.only 14 [] (xo 98 (.call 243 [false] [.t 97])) (.only 15 [0] (xo 99 (.app 1 1 (.t 84) (.t 98))) (.only 16 [0, 1, 2, 3, 4, 5, 6, 7, 8] (xv 5 99) (.done)))))))))))))))))))) (xr [xv 82 10, xo 83 (.bin .add (.t 82) (xi 1)), xv 10 83])))))) (.seq (xr [xv 100 5, xv 4 100]) (.ret))))))))⟩
theorem c194 : chkC Try.prog num Try.f74.ntmps m194.body ((Try.f74.body).getD .skip) = true := by kernel_rfl
def m195 : MFn := ⟨35, [.t 2], .seq (xr [xo 2 (.mv (xi 0))]) (.seq (.dreg (.take 0 (xv 7 0) (.take 1 (xo 8 (.nilck (.t 7))) (.take 2 (xo 9 (.fad 0 (.t 8))) (.take 3 (xo 10 (.load 1 false (.t 9))) (.only 4 [] (xv 11 0) (.only 5 [] (xo 12 (.nilck (.t 11))) (.only 6 [] (xo 13 (.fad 1 (.t 12))) (.only 7 [] (xo 14 (.load 1 false (.t 13))) (.only 8 [3] (xo 15 (.call 245 [false, false] [.t 10, .t 14])) (.only 9 [] (xv 6 15) (.take 10 (xo 16 (.ext (.t 6) 0)) (.take 11 (xo 17 (.ext (.t 6) 1)) (.take 12 (xo 18 (.ext (.t 6) 2)) (.only 13 [0, 1, 2, 3, 10] (xv 3 16) (.only 14 [0, 1, 2, 3, 10, 11] (xv 4 17) (.only 15 [0, 1, 2, 3, 10, 11, 12] (xv 5 18) (.done)))))))))))))))))) (.seq (.seq (xr [xv 19 0, xo 20 (.nilck (.t 19)), xo 21 (.fad 2 (.t 20)), xo 22 (.load 1 false (.t 21)), xv 23 22, xg 24 (.mv (.t 5)) 23 false, xg 25 (.un .«not» (.t 24)) 23 false, xo 26 (.pick (.t 23) (.c (.bool true)) (.t 25))]) (.cond 26 (.seq (xr [xv 27 0, xo 28 (.nilck (.t 27)), xo 29 (.fad 2 (.t 28)), ⟨none, .store 1 (.t 29) (.c (.bool true)), none⟩]) (.seq (xr [xo 2 (.mv (xi 0))]) (.ret))) (.skip))) (.seq (xr [xv 30 0, xv 31 4, xo 32 (.nilck (.t 30)), xo 33 (.fad 1 (.t 32)), ⟨none, .store 1 (.t 33) (.t 31), none⟩]) (.seq (xr [xv 34 3, xv 2 34]) (.ret)))))⟩
theorem c195 : chkC Try.prog num Try.f76.ntmps m195.body ((Try.f76.body).getD .skip) = true := by kernel_rfl
def m196 : MFn := ⟨19, [.t 4], .seq (xr [xo 4 (.mv (.c (.nil)))]) (.seq (xr [xo 7 (.mkSl [xz] 0 []), xv 5 7]) (.seq (.seq (xr [xv 8 1, xo 9 (.mv (xi 0))]) (.blk 0 (.loop (.seq (xr [xo 10 (.bin .lss (.t 9) (.t 8))]) (.seq (.cond 10 (.skip) (.exit 0)) (.seq (.blk 1 (.seq (xr [xv 11 0, xo 12 (.call 195 [true] [.t 11]), xv 6 12]) (xr [xv 13 5, xv 14 6, xo 15 (.mkSl [xz] 1 [(0, .t 14)]), xo 16 (.app 1 8 (.t 13) (.t 15)), xv 5 16]))) (xr [xo 17 (.bin .add (.t 9) (xi 1)), xv 9 17]))))))) (.seq (xr [xv 18 5, xv 4 18]) (.ret))))⟩
theorem c196 : chkC Try.prog num Try.f77.ntmps m196.body ((Try.f77.body).getD .skip) = true := by kernel_rfl
def m197 : MFn := ⟨16, [.t 4], .seq (xr [xo 4 (.mv (xi 0))]) (.seq (xr [xv 6 0, xo 7 (.call 195 [true] [.t 6]), xv 5 7]) (.seq (.seq (xr [xv 8 5, xv 9 1, xo 10 (.call 59 [false, false, false] [.t 8, xi 0, .t 9]), xo 11 (.un .«not» (.t 10))]) (.cond 11 (.seq (xr [xv 12 0, xo 13 (.nilck (.t 12)), xo 14 (.fad 2 (.t 13)), ⟨none, .store 1 (.t 14) (.c (.bool true)), none⟩]) (.seq (xr [xo 4 (.mv (xi 0))]) (.ret))) (.skip))) (.seq (xr [xv 15 5, xv 4 15]) (.ret))))⟩
theorem c197 : chkC Try.prog num Try.f78.ntmps m197.body ((Try.f78.body).getD .skip) = true := by kernel_rfl
def m198 : MFn := ⟨91, [.t 2], .seq (xr [xo 2 (.mv (.c (.nil)))]) (.seq (xr [xo 10 (.mkSl [.int .u8 0] 0 []), xv 3 10]) (.seq (.seq (xr [xv 11 0, xo 12 (.nilck (.t 11)), xo 13 (.fad 0 (.t 12)), xo 14 (.load 1 false (.t 13)), xo 15 (.len (.t 14)), xo 16 (.mv (xi 0))]) (.blk 0 (.loop (.seq (xr [xo 17 (.bin .lss (.t 16) (.t 15))]) (.seq (.cond 17 (.skip) (.exit 0)) (.seq (.blk 1 (.seq (xr [xo 18 (.iad 3 (.t 14) (.t 16)), xo 19 (.load 3 true (.t 18)), xo 5 (.alloc [.int .i64 0, .nil, .int .i64 0]), ⟨none, .store 3 (.t 5) (.t 19), none⟩]) (.seq (xr [xv 20 3, xo 21 (.fad 0 (.t 5)), xo 22 (.load 1 false (.t 21)), xo 23 (.fad 2 (.t 5)), xo 24 (.load 1 false (.t 23)), xo 25 (.mkSl [xz] 2 [(0, .t 22), (1, .t 24)]), xo 26 (.call 246 [false] [.t 25]), xo 27 (.app 1 1 (.t 20) (.t 26)), xv 3 27]) (xr [xv 28 3, xo 29 (.fad 1 (.t 5)), xo 30 (.load 1 false (.t 29)), xo 31 (.call 246 [false] [.t 30]), xo 32 (.app 1 1 (.t 28) (.t 31)), xv 3 32])))) (xr [xo 33 (.bin .add (.t 16) (xi 1)), xv 16 33]))))))) (.seq (.seq (xr [xv 34 0, xo 35 (.nilck (.t 34)), xo 36 (.fad 1 (.t 35)), xo 37 (.load 1 false (.t 36)), xo 38 (.len (.t 37)), xo 39 (.mv (xi 0))]) (.blk 2 (.loop (.seq (xr [xo 40 (.bin .lss (.t 39) (.t 38))]) (.seq (.cond 40 (.skip) (.exit 2)) (.seq (.blk 3 (.seq (xr [xo 41 (.iad 3 (.t 37) (.t 39)), xo 42 (.load 3 true (.t 41)), xo 7 (.alloc [.int .i64 0, .nil, .bool false]), ⟨none, .store 3 (.t 7) (.t 42), none⟩]) (.seq (xr [xv 43 3, xo 44 (.fad 1 (.t 7)), xo 45 (.load 1 false (.t 44)), xo 46 (.len (.t 45)), xo 47 (.mkSl [xz] 1 [(0, .t 46)]), xo 48 (.call 246 [false] [.t 47]), xo 49 (.app 1 1 (.t 43) (.t 48)), xv 3 49]) (.seq (xr [xv 50 3, xo 51 (.fad 1 (.t 7)), xo 52 (.load 1 false (.t 51)), xo 53 (.call 246 [false] [.t 52]), xo 54 (.app 1 1 (.t 50) (.t 53)), xv 3 54]) (xr [xv 55 3, xo 56 (.fad 2 (.t 7)), xo 57 (.load 1 false (.t 56)), xo 58 (.call 78 [false] [.t 57]), xo 59 (.mkSl [xz] 1 [(0, .t 58)]), xo 60 (.call 246 [false] [.t 59]), xo 61 (.app 1 1 (.t 55) (.t 60)), xv 3 61]))))) (xr [xo 62 (.bin .add (.t 39) (xi 1)), xv 39 62]))))))) (.seq (xr [xv 63 3, xv 64 0, xo 65 (.nilck (.t 64)), xo 66 (.fad 2 (.t 65)), xo 67 (.load 1 false (.t 66)), xo 68 (.len (.t 67)), xo 69 (.mkSl [xz] 1 [(0, .t 68)]), xo 70 (.call 246 [false] [.t 69]), xo 71 (.app 1 1 (.t 63) (.t 70)), xv 3 71]) (.seq (.seq (xr [xv 72 0, xo 73 (.nilck (.t 72)), xo 74 (.fad 2 (.t 73)), xo 75 (.load 1 false (.t 74)), xo 76 (.len (.t 75)), xo 77 (.mv (xi 0))]) (.blk 4 (.loop (.seq (xr [xo 78 (.bin .lss (.t 77) (.t 76))]) (.seq (.cond 78 (.skip) (.exit 4)) (.seq (.blk 5 (.seq (xr [xo 79 (.iad 2 (.t 75) (.t 77)), xo 80 (.load 2 true (.t 79)), xo 9 (.alloc [xz, xz]), ⟨none, .store 2 (.t 9) (.t 80), none⟩]) (xr [xv 81 3, xo 82 (.fad 0 (.t 9)), xo 83 (.load 1 false (.t 82)), xo 84 (.fad 1 (.t 9)), xo 85 (.load 1 false (.t 84)), xo 86 (.mkSl [xz] 2 [(0, .t 83), (1, .t 85)]), xo 87 (.call 246 [false] [.t 86]), xo 88 (.app 1 1 (.t 81) (.t 87)), xv 3 88]))) (xr [xo 89 (.bin .add (.t 77) (xi 1)), xv 77 89]))))))) (.seq (xr [xv 90 3, xv 2 90]) (.ret)))))))⟩
theorem c198 : chkC Try.prog num Try.f81.ntmps m198.body ((Try.f81.body).getD .skip) = true := by kernel_rfl
def m199 : MFn := ⟨10, [.t 4], .seq (xr [xo 4 (.mv (.c (.bool false)))]) (.seq (xr [xv 5 0, xo 6 (.cvs (.t 5)), xv 7 1, xo 8 (.cvs (.t 7)), xo 9 (.bin .eql (.t 6) (.t 8)), xv 4 9]) (.ret))⟩
theorem c199 : chkC Try.prog num Try.f80.ntmps m199.body ((Try.f80.body).getD .skip) = true := by kernel_rfl
def m242 : MFn := ⟨57, [.t 4, .t 5, .t 6], .seq (xr [xo 4 (.mv (xi 0)), xo 5 (.mv (xi 0)), xo 6 (.mv (.c (.bool false)))]) (.seq (.seq (xr [xv 9 1, xo 10 (.bin .lss (.t 9) (xi 0)), xv 11 10, xg 12 (.mv (.t 1)) 11 false, xg 13 (.mv (.t 0)) 11 false, xg 14 (.len (.t 13)) 11 false, xg 15 (.bin .sub (.t 14) (xi 9)) 11 false, xg 16 (.bin .gtr (.t 12) (.t 15)) 11 false, xo 17 (.pick (.t 11) (.c (.bool true)) (.t 16)), xv 18 17, xg 19 (.mv (.t 0)) 18 false, xg 20 (.mv (.t 1)) 18 false, xg 21 (.iad 1 (.t 19) (.t 20)) 18 false, xg 22 (.load 1 false (.t 21)) 18 false, xg 23 (.bin .gtr (.t 22) (.c (.int .u8 1))) 18 false, xo 24 (.pick (.t 18) (.c (.bool true)) (.t 23)), xv 25 24, xg 26 (.mv (.t 0)) 25 false, xg 27 (.mv (.t 1)) 25 false, xg 28 (.bin .add (.t 27) (xi 1)) 25 false, xg 29 (.iad 1 (.t 26) (.t 28)) 25 false, xg 30 (.load 1 false (.t 29)) 25 false, xg 31 (.bin .gtr (.t 30) (.c (.int .u8 127))) 25 false, xo 32 (.pick (.t 25) (.c (.bool true)) (.t 31))]) (.cond 32 (.seq (xr [xo 4 (.mv (xi 0)), xo 5 (.mv (xi 0)), xo 6 (.mv (.c (.bool false)))]) (.ret)) (.skip))) (.seq (xr [xo 7 (.mv (xi 0))]) (.seq (.seq (xr [xo 8 (.mv (xi 1))]) (.blk 0 (.loop (.seq (.seq (xr [xv 33 8, xo 34 (.bin .lss (.t 33) (xi 9))]) (.cond 34 (.skip) (.exit 0))) (.seq (.blk 1 (xr [xv 37 7, xo 38 (.bin .shl (.t 37) (.c (.int .u64 8))), xv 39 0, xv 40 1, xv 41 8, xo 42 (.bin .add (.t 40) (.t 41)), xo 43 (.iad 1 (.t 39) (.t 42)), xo 44 (.load 1 false (.t 43)), xo 45 (.cvi .i64 (.t 44)), xo 46 (.bin .«or» (.t 38) (.t 45)), xv 7 46])) (xr [xv 35 8, xo 36 (.bin .add (.t 35) (xi 1)), xv 8 36])))))) (.seq (.seq (xr [xv 47 0, xv 48 1, xo 49 (.iad 1 (.t 47) (.t 48)), xo 50 (.load 1 false (.t 49)), xo 51 (.bin .eql (.t 50) (.c (.int .u8 1)))]) (.cond 51 (xr [xv 52 7, xo 53 (.bin .sub (.c (.int .i64 (-1))) (.t 52)), xv 7 53]) (.skip))) (.seq (xr [xv 54 7, xv 55 1, xo 56 (.bin .add (.t 55) (xi 9)), xv 4 54, xv 5 56, xo 6 (.mv (.c (.bool true)))]) (.ret))))))⟩
theorem c242 : chkC Try.prog num Try.f156.ntmps m242.body ((Try.f156.body).getD .skip) = true := by kernel_rfl
def m243 : MFn := ⟨20, [.t 2], .seq (xr [xo 2 (.mv (.c (.nil)))]) (.seq (xr [xo 5 (.mkSl [.int .u8 0] 0 []), xv 3 5]) (.seq (.seq (xr [xo 4 (.mv (xi 0))]) (.blk 0 (.loop (.seq (.seq (xr [xv 6 4, xv 7 0, xo 8 (.len (.t 7)), xo 9 (.bin .lss (.t 6) (.t 8))]) (.cond 9 (.skip) (.exit 0))) (.seq (.blk 1 (xr [xv 12 3, xv 13 0, xv 14 4, xo 15 (.iad 1 (.t 13) (.t 14)), xo 16 (.load 1 false (.t 15)), xo 17 (.call 244 [false] [.t 16]), xo 18 (.app 1 1 (.t 12) (.t 17)), xv 3 18])) (xr [xv 10 4, xo 11 (.bin .add (.t 10) (xi 1)), xv 4 11])))))) (.seq (xr [xv 19 3, xv 2 19]) (.ret))))⟩
theorem c243 : chkC Try.prog num Try.f157.ntmps m243.body ((Try.f157.body).getD .skip) = true := by kernel_rfl
def m244 : MFn := ⟨25, [.t 2], .seq (xr [xo 2 (.mv (.c (.nil)))]) (.seq (xr [xo 5 (.mkSl [.int .u8 0] 1 [(0, .c (.int .u8 0))]), xv 3 5]) (.seq (.seq (xr [xv 6 0, xo 7 (.bin .lss (.t 6) (xi 0))]) (.cond 7 (.seq (xr [xv 8 3, xo 9 (.iad 1 (.t 8) (xi 0)), ⟨none, .store 1 (.t 9) (.c (.int .u8 1)), none⟩]) (xr [xv 10 0, xo 11 (.bin .sub (.c (.int .i64 (-1))) (.t 10)), xv 0 11])) (.skip))) (.seq (.seq (xr [xo 4 (.mv (xi 56))]) (.blk 0 (.loop (.seq (.seq (xr [xv 12 4, xo 13 (.bin .geq (.t 12) (xi 0))]) (.cond 13 (.skip) (.exit 0))) (.seq (.blk 1 (xr [xv 16 3, xv 17 0, xv 18 4, xo 19 (.bin .shr (.t 17) (.t 18)), xo 20 (.bin .«and» (.t 19) (xi 255)), xo 21 (.cvi .u8 (.t 20)), xo 22 (.mkSl [.int .u8 0] 1 [(0, .t 21)]), xo 23 (.app 1 1 (.t 16) (.t 22)), xv 3 23])) (xr [xv 14 4, xo 15 (.bin .sub (.t 14) (xi 8)), xv 4 15])))))) (.seq (xr [xv 24 3, xv 2 24]) (.ret)))))⟩
theorem c244 : chkC Try.prog num Try.f158.ntmps m244.body ((Try.f158.body).getD .skip) = true := by kernel_rfl
def m245 : MFn := ⟨61, [.t 4, .t 5, .t 6], .seq (xr [xo 4 (.mv (xi 0)), xo 5 (.mv (xi 0)), xo 6 (.mv (.c (.bool false)))]) (.seq (.seq (xr [xv 10 1, xo 11 (.bin .lss (.t 10) (xi 0)), xv 12 11, xg 13 (.mv (.t 1)) 12 false, xg 14 (.mv (.t 0)) 12 false, xg 15 (.len (.t 14)) 12 false, xg 16 (.bin .sub (.t 15) (xi 9)) 12 false, xg 17 (.bin .gtr (.t 13) (.t 16)) 12 false, xo 18 (.pick (.t 12) (.c (.bool true)) (.t 17)), xv 19 18, xg 20 (.mv (.t 0)) 19 false, xg 21 (.mv (.t 1)) 19 false, xg 22 (.iad 1 (.t 20) (.t 21)) 19 false, xg 23 (.load 1 false (.t 22)) 19 false, xg 24 (.bin .gtr (.t 23) (.c (.int .u8 1))) 19 false, xo 25 (.pick (.t 19) (.c (.bool true)) (.t 24)), xv 26 25, xg 27 (.mv (.t 0)) 26 false, xg 28 (.mv (.t 1)) 26 false, xg 29 (.bin .add (.t 28) (xi 1)) 26 false, xg 30 (.iad 1 (.t 27) (.t 29)) 26 false, xg 31 (.load 1 false (.t 30)) 26 false, xg 32 (.bin .gtr (.t 31) (.c (.int .u8 127))) 26 false, xo 33 (.pick (.t 26) (.c (.bool true)) (.t 32))]) (.cond 33 (.seq (xr [xo 4 (.mv (xi 0)), xo 5 (.mv (xi 0)), xo 6 (.mv (.c (.bool false)))]) (.ret)) (.skip))) (.seq (xr [xo 7 (.mv (xi 0))]) (.seq (.seq (xr [xv 34 0, xv 35 1, xo 36 (.bin .add (.t 35) (xi 1)), xv 37 1, xo 38 (.bin .add (.t 37) (xi 9)), xo 39 (.cut 1 (.t 34) (some (.t 36)) (some (.t 38))), xo 40 (.len (.t 39)), xo 41 (.mv (xi 0))]) (.blk 0 (.loop (.seq (xr [xo 42 (.bin .lss (.t 41) (.t 40))]) (.seq (.cond 42 (.skip) (.exit 0)) (.seq (.blk 1 (.seq (xr [xo 43 (.iad 1 (.t 39) (.t 41)), xo 44 (.load 1 false (.t 43)), xv 9 44]) (xr [xv 45 7, xo 46 (.bin .shl (.t 45) (.c (.int .u64 8))), xv 47 9, xo 48 (.cvi .i64 (.t 47)), xo 49 (.bin .«or» (.t 46) (.t 48)), xv 7 49]))) (xr [xo 50 (.bin .add (.t 41) (xi 1)), xv 41 50]))))))) (.seq (.seq (xr [xv 51 0, xv 52 1, xo 53 (.iad 1 (.t 51) (.t 52)), xo 54 (.load 1 false (.t 53)), xo 55 (.bin .eql (.t 54) (.c (.int .u8 1)))]) (.cond 55 (xr [xv 56 7, xo 57 (.bin .sub (.c (.int .i64 (-1))) (.t 56)), xv 7 57]) (.skip))) (.seq (xr [xv 58 7, xv 59 1, xo 60 (.bin .add (.t 59) (xi 9)), xv 4 58, xv 5 60, xo 6 (.mv (.c (.bool true)))]) (.ret))))))⟩
theorem c245 : chkC Try.prog num Try.f161.ntmps m245.body ((Try.f161.body).getD .skip) = true := by kernel_rfl
def m246 : MFn := ⟨19, [.t 2], .seq (xr [xo 2 (.mv (.c (.nil)))]) (.seq (xr [xo 6 (.mkSl [.int .u8 0] 0 []), xv 3 6]) (.seq (.seq (xr [xv 7 0, xo 8 (.len (.t 7)), xo 9 (.mv (xi 0))]) (.blk 0 (.loop (.seq (xr [xo 10 (.bin .lss (.t 9) (.t 8))]) (.seq (.cond 10 (.skip) (.exit 0)) (.seq (.blk 1 (.seq (xr [xo 11 (.iad 1 (.t 7) (.t 9)), xo 12 (.load 1 false (.t 11)), xv 5 12]) (xr [xv 13 3, xv 14 5, xo 15 (.call 294 [false] [.t 14]), xo 16 (.app 1 1 (.t 13) (.t 15)), xv 3 16]))) (xr [xo 17 (.bin .add (.t 9) (xi 1)), xv 9 17]))))))) (.seq (xr [xv 18 3, xv 2 18]) (.ret))))⟩
theorem c246 : chkC Try.prog num Try.f165.ntmps m246.body ((Try.f165.body).getD .skip) = true := by kernel_rfl
def m294 : MFn := ⟨26, [.t 2], .seq (xr [xo 2 (.mv (.c (.nil)))]) (.seq (xr [xo 5 (.mkSl [.int .u8 0] 1 [(0, .c (.int .u8 0))]), xv 3 5]) (.seq (.seq (xr [xv 6 0, xo 7 (.bin .lss (.t 6) (xi 0))]) (.cond 7 (.seq (xr [xv 8 3, xo 9 (.iad 1 (.t 8) (xi 0)), ⟨none, .store 1 (.t 9) (.c (.int .u8 1)), none⟩]) (xr [xv 10 0, xo 11 (.bin .sub (.c (.int .i64 (-1))) (.t 10)), xv 0 11])) (.skip))) (.seq (.seq (xr [xo 4 (.mv (xi 7))]) (.blk 0 (.loop (.seq (.seq (xr [xv 12 4, xo 13 (.bin .geq (.t 12) (xi 0))]) (.cond 13 (.skip) (.exit 0))) (.seq (.blk 1 (xr [xv 16 3, xv 17 0, xv 18 4, xo 19 (.bin .mul (xi 8) (.t 18)), xo 20 (.bin .shr (.t 17) (.t 19)), xo 21 (.bin .«and» (.t 20) (xi 255)), xo 22 (.cvi .u8 (.t 21)), xo 23 (.mkSl [.int .u8 0] 1 [(0, .t 22)]), xo 24 (.app 1 1 (.t 16) (.t 23)), xv 3 24])) (xr [xv 14 4, xo 15 (.bin .sub (.t 14) (xi 1)), xv 4 15])))))) (.seq (xr [xv 25 3, xv 2 25]) (.ret)))))⟩
theorem c294 : chkC Try.prog num Try.f242.ntmps m294.body ((Try.f242.body).getD .skip) = true := by kernel_rfl
open Nat renaming reduceAdd → qA, reduceMul → qB, reduceEqDiff → qC, reduceBEq → qD
open Int renaming reduceToNat → qE, reduceEq → qF, reduceLT → qG, reduceLE → qH
open List renaming getD_eq_getElem?_getD → gD

/-- Numbers as bytes. -/
def byteAt (n k : Int) : Int := IntKind.u8.wrap (bAnd .i64 (bShr .i64 n k) 255)
def putNum (n : Int) : Int := if n < 0 then IntKind.i64.wrap (-1 - n) else n
def putInt (n : Int) : List Int := [if n < 0 then 1 else 0, byteAt (putNum n) 56, byteAt (putNum n) 48, byteAt (putNum n) 40, byteAt (putNum n) 32, byteAt (putNum n) 24, byteAt (putNum n) 16, byteAt (putNum n) 8, byteAt (putNum n) 0]
@[simp] theorem putInt_length (n : Int) : (putInt n).length = 9 := rfl
def addByte (n x : Int) : Int := bOr .i64 (bShl .i64 n 8) (IntKind.i64.wrap x)
def getFold (l : List Int) : Int := l.foldl addByte 0
def getBad (b : List Int) (a : Int) : Bool := decide (a < 0) || decide ((b.length : Int) - 9 < a) || decide (1 < b.getD a.toNat 0) || decide (127 < b.getD (a + 1).toNat 0)
def getInt (b : List Int) (a : Int) : Int × Int × Bool :=
  if getBad b a = true then (0, 0, false)
  else (if b.getD a.toNat 0 = 1 then IntKind.i64.wrap (-1 - getFold ((b.drop (a + 1).toNat).take 8)) else getFold ((b.drop (a + 1).toNat).take 8), a + 9, true)

def isByte (x : Int) : Prop := 0 ≤ x ∧ x < 256
def i64 (n : Int) : Prop := -(2 ^ 63) ≤ n ∧ n < 2 ^ 63

theorem u8_wrap {n : Int} (h : 0 ≤ n ∧ n < 256) : IntKind.u8.wrap n = n := by
  unfold IntKind.wrap
  have h1 : IntKind.u8.bits = 8 := rfl
  have h2 : IntKind.u8.signed = false := rfl
  simp only [h1, h2]
  simp
  omega

theorem bAnd_255 {n : Int} (h : 0 ≤ n) (h2 : n < 2 ^ 63) : bAnd .i64 n 255 = n % 256 := by
  obtain ⟨m, rfl⟩ := Int.eq_ofNat_of_zero_le h
  unfold bAnd
  have h1 : (BitVec.ofInt IntKind.i64.bits (m : Int)).toNat = m := by
    have hb : IntKind.i64.bits = 64 := rfl
    rw [hb, BitVec.toNat_ofInt]
    omega
  have h3 : (BitVec.ofInt IntKind.i64.bits (255 : Int)).toNat = 2 ^ 8 - 1 := by decide
  rw [BitVec.toNat_and, h1, h3, Nat.and_two_pow_sub_one_eq_mod]
  rw [wrap64 (by omega) (by omega)]
  omega

theorem shr_div {n : Int} (k : Nat) (h : 0 ≤ n) (hk : k ≤ 64) : bShr .i64 n k = n / 2 ^ k := by
  unfold bShr
  have hb : IntKind.i64.bits = 64 := rfl
  rw [hb]
  have : min (k : Int).toNat 64 = k := by omega
  rw [this, Int.fdiv_eq_ediv_of_nonneg _ (by exact_mod_cast Nat.zero_le (2 ^ k))]

theorem byteAt_eq {n : Int} (k : Nat) (h : 0 ≤ n) (h2 : n < 2 ^ 63) (hk : k ≤ 64) : byteAt n k = n / 2 ^ k % 256 := by
  unfold byteAt
  rw [shr_div k h hk]
  have h3 : 0 ≤ n / 2 ^ k := Int.ediv_nonneg h (by exact_mod_cast Nat.zero_le (2 ^ k))
  have h4 : n / 2 ^ k ≤ n := Int.ediv_le_self _ h
  rw [bAnd_255 h3 (by omega), u8_wrap ⟨by omega, by omega⟩]

theorem addByte_eq {n x : Int} (h : 0 ≤ n) (h2 : n < 2 ^ 55) (hx : isByte x) : addByte n x = n * 256 + x := by
  obtain ⟨x0, x1⟩ := hx
  obtain ⟨m, rfl⟩ := Int.eq_ofNat_of_zero_le h
  obtain ⟨y, rfl⟩ := Int.eq_ofNat_of_zero_le x0
  unfold addByte bOr bShl
  have hb : IntKind.i64.bits = 64 := rfl
  have e8 : (2 : Int) ^ min (8 : Int).toNat IntKind.i64.bits = 256 := by decide
  rw [e8, wrap64 (n := (m : Int) * 256) (by omega) (by omega), wrap64 (n := (y : Int)) (by omega) (by omega)]
  have h1 : (BitVec.ofInt IntKind.i64.bits ((m : Int) * 256)).toNat = m <<< 8 := by
    rw [hb, BitVec.toNat_ofInt, Nat.shiftLeft_eq]
    omega
  have h3 : (BitVec.ofInt IntKind.i64.bits (y : Int)).toNat = y := by
    rw [hb, BitVec.toNat_ofInt]
    omega
  rw [BitVec.toNat_or, h1, h3, ← Nat.shiftLeft_add_eq_or_of_lt (by omega : y < 2 ^ 8), Nat.shiftLeft_eq]
  rw [wrap64 (by omega) (by omega)]
  push_cast
  omega

theorem getFold_put {m : Int} (h : 0 ≤ m) (h2 : m < 2 ^ 63) : getFold [byteAt m 56, byteAt m 48, byteAt m 40, byteAt m 32, byteAt m 24, byteAt m 16, byteAt m 8, byteAt m 0] = m := by
  have e56 : byteAt m 56 = m / 2 ^ 56 % 256 := byteAt_eq 56 h h2 (by decide)
  have e48 : byteAt m 48 = m / 2 ^ 48 % 256 := byteAt_eq 48 h h2 (by decide)
  have e40 : byteAt m 40 = m / 2 ^ 40 % 256 := byteAt_eq 40 h h2 (by decide)
  have e32 : byteAt m 32 = m / 2 ^ 32 % 256 := byteAt_eq 32 h h2 (by decide)
  have e24 : byteAt m 24 = m / 2 ^ 24 % 256 := byteAt_eq 24 h h2 (by decide)
  have e16 : byteAt m 16 = m / 2 ^ 16 % 256 := byteAt_eq 16 h h2 (by decide)
  have e8 : byteAt m 8 = m / 2 ^ 8 % 256 := byteAt_eq 8 h h2 (by decide)
  have e0 : byteAt m 0 = m / 2 ^ 0 % 256 := byteAt_eq 0 h h2 (by decide)
  unfold getFold
  simp only [List.foldl_cons, List.foldl_nil]
  have b : ∀ x : Int, isByte (x % 256) := fun x => ⟨by omega, by omega⟩
  have f1 : addByte 0 (byteAt m 56) = m / 2 ^ 56 := by rw [e56, addByte_eq (by omega) (by omega) (b _)]; omega
  have f2 : addByte (m / 2 ^ 56) (byteAt m 48) = m / 2 ^ 48 := by rw [e48, addByte_eq (by omega) (by omega) (b _)]; omega
  have f3 : addByte (m / 2 ^ 48) (byteAt m 40) = m / 2 ^ 40 := by rw [e40, addByte_eq (by omega) (by omega) (b _)]; omega
  have f4 : addByte (m / 2 ^ 40) (byteAt m 32) = m / 2 ^ 32 := by rw [e32, addByte_eq (by omega) (by omega) (b _)]; omega
  have f5 : addByte (m / 2 ^ 32) (byteAt m 24) = m / 2 ^ 24 := by rw [e24, addByte_eq (by omega) (by omega) (b _)]; omega
  have f6 : addByte (m / 2 ^ 24) (byteAt m 16) = m / 2 ^ 16 := by rw [e16, addByte_eq (by omega) (by omega) (b _)]; omega
  have f7 : addByte (m / 2 ^ 16) (byteAt m 8) = m / 2 ^ 8 := by rw [e8, addByte_eq (by omega) (by omega) (b _)]; omega
  have f8 : addByte (m / 2 ^ 8) (byteAt m 0) = m := by rw [show byteAt m 0 = m / 2 ^ 0 % 256 from e0, addByte_eq (by omega) (by omega) (b _)]; omega
  rw [f1, f2, f3, f4, f5, f6, f7, f8]

theorem putNum_in {n : Int} (h : i64 n) : 0 ≤ putNum n ∧ putNum n < 2 ^ 63 := by
  unfold i64 at h
  unfold putNum
  split
  · rw [wrap64 (by omega) (by omega)]; omega
  · omega

theorem getInt_put {n : Int} (pre rest : List Int) (h : i64 n) : getInt (pre ++ (putInt n ++ rest)) pre.length = (n, (pre.length : Int) + 9, true) := by
  obtain ⟨m0, m1⟩ := putNum_in h
  have e56 : byteAt (putNum n) 56 = (putNum n) / 2 ^ 56 % 256 := byteAt_eq 56 m0 m1 (by decide)
  have g0 : (pre ++ (putInt n ++ rest)).getD pre.length 0 = if n < 0 then 1 else 0 := by simp [putInt, List.getD_eq_getElem?_getD]
  have g1 : (pre ++ (putInt n ++ rest)).getD (pre.length + 1) 0 = byteAt (putNum n) 56 := by simp [putInt, List.getD_eq_getElem?_getD]
  have gd : ((pre ++ (putInt n ++ rest)).drop (pre.length + 1)).take 8 = [byteAt (putNum n) 56, byteAt (putNum n) 48, byteAt (putNum n) 40, byteAt (putNum n) 32, byteAt (putNum n) 24, byteAt (putNum n) 16, byteAt (putNum n) 8, byteAt (putNum n) 0] := by
    rw [List.drop_append, List.drop_of_length_le (by omega)]
    simp [putInt]
  have hl : (pre ++ (putInt n ++ rest)).length = pre.length + 9 + rest.length := by simp; omega
  have n1 : ((pre.length : Int) + 1).toNat = pre.length + 1 := by omega
  have hb : getBad (pre ++ (putInt n ++ rest)) pre.length = false := by
    unfold getBad
    rw [hl, n1, g1, Int.toNat_natCast, g0, e56]
    simp only [Bool.or_eq_false_iff, decide_eq_false_iff_not]
    refine ⟨⟨⟨by omega, by push_cast; omega⟩, by split <;> omega⟩, by omega⟩
  unfold getInt
  rw [hb, n1, Int.toNat_natCast, g0, gd, getFold_put m0 m1]
  simp only [Bool.false_eq_true, if_false, Prod.mk.injEq, and_true]
  unfold i64 at h
  unfold putNum
  split
  · rw [if_pos rfl, wrap64 (by rw [wrap64 (by omega) (by omega)]; omega) (by rw [wrap64 (by omega) (by omega)]; omega), wrap64 (by omega) (by omega)]
    omega
  · rw [if_neg (by omega)]

theorem bys_snoc (l : List Int) (n : Int) : bys l ++ [[.int .u8 n]] = bys (l ++ [n]) := by simp [bys]
theorem putInt_next (n : Int) : ∀ j : Nat, j < 8 → (putInt n).take (j + 2) = (putInt n).take (j + 1) ++ [byteAt (putNum n) (8 * (7 - j))]
  | 0, _ => rfl
  | 1, _ => rfl
  | 2, _ => rfl
  | 3, _ => rfl
  | 4, _ => rfl
  | 5, _ => rfl
  | 6, _ => rfl
  | 7, _ => rfl

set_option maxHeartbeats 2000000 in
theorem implPutInt_ok (n : Int) : CallOk Try.prog num 294 [.int .i64 n] [] (.sl .own 1 (bys (putInt n))) := by
  refine enter (m := m294) (f := 294) (fn := Try.f242) Try.func242 (by kernel_rfl) rfl c294 rfl (by simp [Try.f242]) (by simp [bnds, bnd, nf_sl, nf_int, nf_bool, nf_str, ints_bnd]) (fun _ _ h => by simp [preH, look] at h) ?_
  unfold m294
  have hlen : (putInt n).length = 9 := rfl
  by_cases hn : n < 0
  case' pos =>
    have w : IntKind.i64.wrap (-1 - n) = putNum n := by unfold putNum; rw [if_pos hn]
    simp only [go_sem, qA, qB, qC, qD, qE, qF, qG, qH, hn, w, reduceCtorEq]
    repeat refine K ?_
  case' neg =>
    simp only [go_sem, qA, qB, qC, qD, qE, qF, qG, qH, hn, reduceCtorEq]
    repeat refine K ?_
  all_goals
    refine loop_intro (ι := Nat) (fun j => .mk [(0, .int .i64 (putNum n)), (3, .ns 10 0 (j + 1)), (4, .int .i64 (7 - (j : Int)))] [(10, 1, bys ((putInt n).take (j + 1)))] 11) (fun j => j ≤ 8) (fun j => 8 - j) 0 (by simp) ?_ ?_
    · refine Sub.shape [] id (by omega) ?_ ?_ ?_ ?_ <;> simp [ints_rep]
      all_goals simp [putNum, putInt, hn, bys]
    · intro j hj
      have hl : ((putInt n).take (j + 1)).length = j + 1 := by rw [List.length_take, hlen]; omega
      by_cases hc : j < 8
      · have c1 : (0 : Int) ≤ (7 - (j : Int)) := by omega
        have w1 : IntKind.i64.wrap ((7 - (j : Int)) - 1) = 7 - ((j + 1 : Nat) : Int) := by rw [wrap64 (by omega) (by omega)]; omega
        have w2 : IntKind.i64.wrap (8 * (7 - (j : Int))) = 8 * (7 - j) := wrap64 (by omega) (by omega)
        have hs := putInt_next n j hc
        unfold byteAt at hs
        simp only [go_sem, qA, qB, qC, qD, qE, qF, qG, qH, c1, w1, w2, shiftA, reduceCtorEq, hl]
        repeat refine K ?_
        refine back_intro (j + 1) ?_ hc (by omega)
        rw [hs]
        refine Sub.shape [] (fun n => if n = 10 then 12 else n) (by omega) ?_ ?_ ?_ ?_ <;> simp [ints_rep]
        all_goals exact .inl (bys_snoc _ _)
      · have c1 : ¬ (0 : Int) ≤ (7 - (j : Int)) := by omega
        have hje : j = 8 := by omega
        subst hje
        simp only [go_sem, qA, qB, qC, qD, qE, qF, qG, qH, c1]
        repeat refine K ?_
        refine ⟨_, Sub.refl _, ?_⟩; simp [FinS, nilL, nilV, oneOr, -List.drop_one]
        rfl

set_option maxHeartbeats 2000000 in
theorem specPutInt_ok (n : Int) : CallOk Try.prog num 244 [.int .i64 n] [] (.sl .own 1 (bys (putInt n))) := by
  refine enter (m := m244) (f := 244) (fn := Try.f158) Try.func158 (by kernel_rfl) rfl c244 rfl (by simp [Try.f158]) (by simp [bnds, bnd, nf_sl, nf_int, nf_bool, nf_str, ints_bnd]) (fun _ _ h => by simp [preH, look] at h) ?_
  unfold m244
  have hlen : (putInt n).length = 9 := rfl
  by_cases hn : n < 0
  case' pos =>
    have w : IntKind.i64.wrap (-1 - n) = putNum n := by unfold putNum; rw [if_pos hn]
    simp only [go_sem, qA, qB, qC, qD, qE, qF, qG, qH, hn, w, reduceCtorEq]
    repeat refine K ?_
  case' neg =>
    simp only [go_sem, qA, qB, qC, qD, qE, qF, qG, qH, hn, reduceCtorEq]
    repeat refine K ?_
  all_goals
    refine loop_intro (ι := Nat) (fun j => .mk [(0, .int .i64 (putNum n)), (3, .ns 10 0 (j + 1)), (4, .int .i64 (8 * (7 - (j : Int))))] [(10, 1, bys ((putInt n).take (j + 1)))] 11) (fun j => j ≤ 8) (fun j => 8 - j) 0 (by simp) ?_ ?_
    · refine Sub.shape [] id (by omega) ?_ ?_ ?_ ?_ <;> simp [ints_rep]
      all_goals simp [putNum, putInt, hn, bys]
    · intro j hj
      have hl : ((putInt n).take (j + 1)).length = j + 1 := by rw [List.length_take, hlen]; omega
      by_cases hc : j < 8
      · have c1 : (0 : Int) ≤ (8 * (7 - (j : Int))) := by omega
        have w1 : IntKind.i64.wrap ((8 * (7 - (j : Int))) - 8) = 8 * (7 - ((j + 1 : Nat) : Int)) := by rw [wrap64 (by omega) (by omega)]; omega
        have w2 : IntKind.i64.wrap (8 * (7 - (j : Int))) = 8 * (7 - j) := wrap64 (by omega) (by omega)
        have hs := putInt_next n j hc
        unfold byteAt at hs
        simp only [go_sem, qA, qB, qC, qD, qE, qF, qG, qH, c1, w1, w2, shiftA, reduceCtorEq, hl]
        repeat refine K ?_
        refine back_intro (j + 1) ?_ hc (by omega)
        rw [hs]
        refine Sub.shape [] (fun n => if n = 10 then 12 else n) (by omega) ?_ ?_ ?_ ?_ <;> simp [ints_rep]
        all_goals exact .inl (bys_snoc _ _)
      · have c1 : ¬ (0 : Int) ≤ (8 * (7 - (j : Int))) := by omega
        have hje : j = 8 := by omega
        subst hje
        simp only [go_sem, qA, qB, qC, qD, qE, qF, qG, qH, c1]
        repeat refine K ?_
        refine ⟨_, Sub.refl _, ?_⟩; simp [FinS, nilL, nilV, oneOr, -List.drop_one]
        rfl

def putAll (l : List Int) : List Int := l.flatMap putInt
theorem putAll_snoc (l : List Int) (n : Int) : putAll (l ++ [n]) = putAll l ++ putInt n := by simp [putAll]
theorem putAll_length (l : List Int) : (putAll l).length = 9 * l.length := by
  induction l with
  | nil => rfl
  | cons a l ih => simp only [putAll, List.flatMap_cons, List.length_append, putInt_length, List.length_cons] at ih ⊢; omega
theorem putAll_next (l : List Int) (i : Nat) (h : i < l.length) : putAll (l.take (i + 1)) = putAll (l.take i) ++ putInt (l.getD i 0) := by rw [take_snoc l 0 i h, putAll_snoc]
theorem bys_app (l m : List Int) : bys l ++ bys m = bys (l ++ m) := by simp [bys]

theorem implPutInts_ok (l : List Int) (hl : l.length < 2 ^ 40) : CallOk Try.prog num 246 [.sl .bw 1 (ints l)] [] (.sl .own 1 (bys (putAll l))) := by
  refine enter (m := m246) (f := 246) (fn := Try.f165) Try.func165 (by kernel_rfl) rfl c246 rfl (by simp [Try.f165]) (by simp [bnds, bnd, nf_sl, nf_int, nf_bool, nf_str, ints_bnd]) (fun _ _ h => by simp [preH, look] at h) ?_
  unfold m246
  simp only [go_sem, qA, qB, qC, qD, qE, qF, qG, qH]
  repeat refine K ?_
  refine loop_intro (ι := Nat) (fun i => .mk [(3, .ns 10 0 (9 * i)), (7, .sl .bw 1 (ints l)), (8, .int .i64 l.length), (9, .int .i64 i)] [(10, 1, bys (putAll (l.take i)))] 11) (fun i => i ≤ l.length) (fun i => l.length - i) 0 (by simp) ?_ ?_
  · refine Sub.shape [] id (by omega) ?_ ?_ ?_ ?_ <;> simp [ints_rep]
    all_goals simp [putAll, bys]
  · intro i hi
    have hlen : (putAll (l.take i)).length = 9 * i := by rw [putAll_length, List.length_take]; omega
    simp only [go_sem, qA, qB, qC, qD, qE, qF, qG, qH]
    refine branch_intro (fun hc => ?_) (fun hc => ?_)
    · simp only [decide_eq_true_eq] at hc
      have hi' : i < l.length := by omega
      simp only [go_sem, qA, qB, qC, qD, qE, qF, qG, qH, ints_getD l i hi', hlen]
      repeat refine K ?_
      refine CA [] (implPutInt_ok (l.getD i 0)) ?_
      try simp only [go_sem, qA, qB, qC, qD, qE, qF, qG, qH]
      repeat refine K ?_
      try simp only [go_sem, qA, qB, qC, qD, qE, qF, qG, qH, hlen, putInt_length, wrap_succ (i := i) (by omega)]
      repeat refine K ?_
      refine back_intro (i + 1) ?_ hi' (by omega)
      rw [putAll_next l i hi']
      refine Sub.shape [] (fun n => if n = 10 then 12 else n) (by omega) ?_ ?_ ?_ ?_ <;> simp [ints_rep]
      all_goals first | omega | exact .inl rfl
    · simp only [decide_eq_false_iff_not] at hc
      have he : l.take i = l := List.take_of_length_le (by omega)
      rw [he] at hlen ⊢
      simp only [go_sem, qA, qB, qC, qD, qE, qF, qG, qH, hlen]
      repeat refine K ?_
      refine ⟨_, Sub.refl _, ?_⟩; simp [FinS, nilL, nilV, oneOr, -List.drop_one]
      exact ⟨by omega, fun h => (h (by omega)).elim⟩

theorem specPutInts_ok (l : List Int) (hl : l.length < 2 ^ 40) : CallOk Try.prog num 243 [.sl .bw 1 (ints l)] [] (.sl .own 1 (bys (putAll l))) := by
  refine enter (m := m243) (f := 243) (fn := Try.f157) Try.func157 (by kernel_rfl) rfl c243 rfl (by simp [Try.f157]) (by simp [bnds, bnd, nf_sl, nf_int, nf_bool, nf_str, ints_bnd]) (fun _ _ h => by simp [preH, look] at h) ?_
  unfold m243
  simp only [go_sem, qA, qB, qC, qD, qE, qF, qG, qH]
  repeat refine K ?_
  refine loop_intro (ι := Nat) (fun i => .mk [(0, .sl .bw 1 (ints l)), (3, .ns 10 0 (9 * i)), (4, .int .i64 i)] [(10, 1, bys (putAll (l.take i)))] 11) (fun i => i ≤ l.length) (fun i => l.length - i) 0 (by simp) ?_ ?_
  · refine Sub.shape [] id (by omega) ?_ ?_ ?_ ?_ <;> simp [ints_rep]
    all_goals simp [putAll, bys]
  · intro i hi
    have hlen : (putAll (l.take i)).length = 9 * i := by rw [putAll_length, List.length_take]; omega
    simp only [go_sem, qA, qB, qC, qD, qE, qF, qG, qH]
    refine branch_intro (fun hc => ?_) (fun hc => ?_)
    · simp only [decide_eq_true_eq] at hc
      have hi' : i < l.length := by omega
      simp only [go_sem, qA, qB, qC, qD, qE, qF, qG, qH, ints_getD l i hi', hlen]
      repeat refine K ?_
      refine CA [] (specPutInt_ok (l.getD i 0)) ?_
      try simp only [go_sem, qA, qB, qC, qD, qE, qF, qG, qH]
      repeat refine K ?_
      try simp only [go_sem, qA, qB, qC, qD, qE, qF, qG, qH, hlen, putInt_length, wrap_succ (i := i) (by omega)]
      repeat refine K ?_
      refine back_intro (i + 1) ?_ hi' (by omega)
      rw [putAll_next l i hi']
      refine Sub.shape [] (fun n => if n = 10 then 12 else n) (by omega) ?_ ?_ ?_ ?_ <;> simp [ints_rep]
      all_goals first | omega | exact .inl rfl
    · simp only [decide_eq_false_iff_not] at hc
      have he : l.take i = l := List.take_of_length_le (by omega)
      rw [he] at hlen ⊢
      simp only [go_sem, qA, qB, qC, qD, qE, qF, qG, qH, hlen]
      repeat refine K ?_
      refine ⟨_, Sub.refl _, ?_⟩; simp [FinS, nilL, nilV, oneOr, -List.drop_one]
      exact ⟨by omega, fun h => (h (by omega)).elim⟩

theorem toByteS_ok (l : List Int) (hl : 8 * l.length ≤ 2 ^ 47) : CallOk Try.prog num 152 [.sl .bw 1 (bys l)] [] (.sl .own 1 (bys l)) := by
  refine enter (m := m152) (f := 152) (fn := Try.f18) Try.func18 (by kernel_rfl) rfl c152 rfl (by simp [Try.f18]) (by simp [bnds, bnd, nf_sl, nf_int, nf_bool, nf_str, ints_bnd]) (fun _ _ h => by simp [preH, look] at h) ?_
  unfold m152
  simp only [go_sem, qA, qB, qC, qD, qE, qF, qG, qH]
  repeat refine K ?_
  refine loop_intro (ι := Nat) (fun i => .mk [(0, .sl .bw 1 (bys l)), (3, .ns 10 0 l.length), (4, .int .i64 i)] [(10, 1, bys (l.take i ++ List.replicate (l.length - i) 0))] 11) (fun i => i ≤ l.length) (fun i => l.length - i) 0 (by simp) ?_ ?_
  · refine Sub.shape [] id (by omega) ?_ ?_ ?_ ?_ <;> simp [ints_rep]
    left
    exact bys_rep _ _
  · intro i hi
    simp only [go_sem, qA, qB, qC, qD, qE, qF, qG, qH]
    refine branch_intro (fun hc => ?_) (fun hc => ?_)
    · simp only [decide_eq_true_eq] at hc
      have hl' : i < l.length := by omega
      have hm := fill_length l (0 : Int) i hi
      have hs := fill_set l 0 (0 : Int) i hl'
      simp only [go_sem, qA, qB, qC, qD, qE, qF, qG, qH, bys_getD l i hl', bys_getD _ i (hm ▸ hl'), hm, hs, wrap_succ (i := i) (by omega)]
      repeat refine K ?_
      refine back_intro (i + 1) (Sub.shape [] id (by omega) ?_ ?_ ?_ ?_) ?_ ?_
      any_goals (first | omega | (simp [ints_rep]; done))
    · simp only [decide_eq_false_iff_not] at hc
      have : i = l.length := by omega
      subst this
      simp only [go_sem, qA, qB, qC, qD, qE, qF, qG, qH]
      repeat refine K ?_
      refine ⟨_, Sub.refl _, ?_⟩; simp [FinS, nilL, nilV, oneOr, -List.drop_one]

theorem eqByteS_ok (xs ys : List Int) (hx : xs.length ≤ 2 ^ 47) : CallOk Try.prog num 155 [.sl .bw 1 (bys xs), .sl .bw 1 (bys ys)] [] (.bool (decide (xs = ys))) := by
  refine enter (m := m155) (f := 155) (fn := Try.f22) Try.func22 (by kernel_rfl) rfl c155 rfl (by simp [Try.f22]) (by simp [bnds, bnd, nf_sl, nf_int, nf_bool, nf_str, ints_bnd]) (fun _ _ h => by simp [preH, look] at h) ?_
  unfold m155
  simp only [go_sem, qA, qB, qC, qD, qE, qF, qG, qH]
  repeat refine K ?_
  refine branch_intro (fun hc => ?_) (fun hc => ?_)
  · have hne : xs ≠ ys := fun he => by subst he; simp at hc
    simp only [go_sem, qA, qB, qC, qD, qE, qF, qG, qH]
    repeat refine K ?_
    refine ⟨_, Sub.refl _, ?_⟩; simp [FinS, nilL, nilV, oneOr, -List.drop_one]
    exact hne
  · have hl : xs.length = ys.length := by simp at hc; omega
    simp only [go_sem, qA, qB, qC, qD, qE, qF, qG, qH]
    repeat refine K ?_
    refine loop_intro (ι := Nat) (fun i => .mk [(0, .sl .bw 1 (bys xs)), (1, .sl .bw 1 (bys ys)), (5, .int .i64 i)] [] 10) (fun i => i ≤ xs.length ∧ xs.take i = ys.take i) (fun i => xs.length - i) 0 (by simp) ?_ ?_
    · refine Sub.shape [] id (by omega) ?_ ?_ ?_ ?_ <;> simp [ints_rep]
    · rintro i ⟨hi, hp⟩
      simp only [go_sem, qA, qB, qC, qD, qE, qF, qG, qH]
      repeat refine K ?_
      refine branch_intro (fun hc => ?_) (fun hc => ?_)
      · simp only [decide_eq_true_eq] at hc
        have hil : i < xs.length := by omega
        have hjl : i < ys.length := by omega
        simp only [go_sem, qA, qB, qC, qD, qE, qF, qG, qH, bys_getD xs i hil, bys_getD ys i hjl]
        repeat refine K ?_
        by_cases he : xs.getD i 0 = ys.getD i 0
        · simp only [go_sem, qA, qB, qC, qD, qE, qF, qG, qH, he, wrap_succ (i := i) (by omega)]
          repeat refine K ?_
          refine back_intro (i + 1) (Sub.shape [] id (by omega) ?_ ?_ ?_ ?_) ?_ ?_
          any_goals (first | omega | (simp [ints_rep]; done))
          refine ⟨hil, ?_⟩
          rw [List.take_succ_eq_append_getElem hil, List.take_succ_eq_append_getElem hjl, hp]
          have he' : xs[i] = ys[i] := by simpa [List.getD_eq_getElem?_getD, hil, hjl] using he
          rw [he']
        · simp only [go_sem, qA, qB, qC, qD, qE, qF, qG, qH, he]
          repeat refine K ?_
          refine ⟨_, Sub.refl _, ?_⟩; simp [FinS, nilL, nilV, oneOr, -List.drop_one]
          intro h
          subst h
          exact he rfl
      · simp only [decide_eq_false_iff_not] at hc
        have he : xs = ys := by
          have h1 : i = xs.length := by omega
          rw [h1, List.take_length, hl, List.take_length] at hp
          exact hp
        simp only [go_sem, qA, qB, qC, qD, qE, qF, qG, qH]
        repeat refine K ?_
        refine ⟨_, Sub.refl _, ?_⟩; simp [FinS, nilL, nilV, oneOr, -List.drop_one]
        exact he

def marksB (k : Int) (n : Nat) : List Int := (List.range n).map fun (i : Nat) => IntKind.u8.wrap (k + i)
@[simp] theorem marksB_length (k : Int) (n : Nat) : (marksB k n).length = n := by simp [marksB]
@[simp] theorem marksB_take (k : Int) (n : Nat) : (marksB k n).take n = marksB k n := List.take_of_length_le (by simp)
theorem marksB_set (xs : List Int) (k : Int) (i : Nat) (h : i < xs.length) : (marksB k i ++ xs.drop i).set i (IntKind.u8.wrap (k + i)) = marksB k (i + 1) ++ xs.drop (i + 1) := by
  rw [List.set_append_right _ _ (by simp [marksB_length]), marksB_length, Nat.sub_self, List.drop_eq_getElem_cons h, List.set_cons_zero]
  simp [marksB, List.range_succ]
theorem marksB_getD (k : Int) (n i : Nat) (h : i < n) : (marksB k n).getD i 0 = IntKind.u8.wrap (k + i) := by simp [marksB, List.getD_eq_getElem?_getD, h]

theorem markByteS_ok (xs : List Int) (k : Int) (h0 : 0 ≤ k) (h1 : k + xs.length < 2 ^ 62) : CallOk Try.prog num 156 [.ns 0 0 xs.length, .int .i64 k] [(0, some (1, bys xs), some (1, bys (marksB k xs.length)))] (.int .i64 (k + xs.length)) := by
  refine enter (m := m156) (f := 156) (fn := Try.f24) Try.func24 (by kernel_rfl) rfl c156 rfl (by simp [Try.f24]) (by simp [bnds, bnd, nf_sl, nf_int, nf_bool, nf_str, ints_bnd]) (by first | (simp [preH, hb_nil, hb_cons, ints_bnd]; done) | exact hb_cons _ _ _ _ ((hb_nil _).2 trivial) (by decide) (by simp [ints_bnd, bndr, bnds, bnd])) ?_
  unfold m156
  simp only [go_sem, qA, qB, qC, qD, qE, qF, qG, qH]
  repeat refine K ?_
  refine loop_intro (ι := Nat) (fun i => .mk [(0, .ns 0 0 xs.length), (1, .int .i64 (k + i)), (5, .int .i64 i)] [(0, 1, bys (marksB k i ++ xs.drop i))] 10) (fun i => i ≤ xs.length) (fun i => xs.length - i) 0 (by omega) ?_ ?_
  · refine Sub.shape [] id (by omega) ?_ ?_ ?_ ?_ <;> simp [ints_rep]
    simp [marksB]
  · intro i hi
    have hm : (marksB k i ++ xs.drop i).length = xs.length := by simp [marksB_length]; omega
    simp only [go_sem, qA, qB, qC, qD, qE, qF, qG, qH, hm]
    refine branch_intro (fun hc => ?_) (fun hc => ?_)
    · simp only [decide_eq_true_eq] at hc
      have hl : i < xs.length := by omega
      simp only [go_sem, qA, qB, qC, qD, qE, qF, qG, qH, bys_getD _ i (hm ▸ hl), hm, marksB_set xs k i hl, wrap_add k i h0 (by omega), wrap_succ (i := i) (by omega)]
      repeat refine K ?_
      refine back_intro (i + 1) (Sub.shape [] id (by omega) ?_ ?_ ?_ ?_) ?_ ?_
      any_goals (first | omega | (simp [ints_rep]; done))
    · simp only [decide_eq_false_iff_not] at hc
      have : i = xs.length := by omega
      subst this
      simp only [go_sem, qA, qB, qC, qD, qE, qF, qG, qH]
      repeat refine K ?_
      refine ⟨_, Sub.refl _, ?_⟩; simp [FinS, nilL, nilV, oneOr, -List.drop_one]

theorem heldByteS_ok (n : Nat) (k : Int) (h0 : 0 ≤ k) (h1 : k + n < 2 ^ 62) : CallOk Try.prog num 187 [.sl .bw 1 (bys (marksB k n)), .int .i64 k] [] (.int .i64 (k + n)) := by
  refine enter (m := m187) (f := 187) (fn := Try.f61) Try.func61 (by kernel_rfl) rfl c187 rfl (by simp [Try.f61]) (by simp [bnds, bnd, nf_sl, nf_int, nf_bool, nf_str, ints_bnd]) (fun _ _ h => by simp [preH, look] at h) ?_
  unfold m187
  simp only [go_sem, qA, qB, qC, qD, qE, qF, qG, qH, marksB_length]
  repeat refine K ?_
  refine loop_intro (ι := Nat) (fun i => .mk [(0, .sl .bw 1 (bys (marksB k n))), (1, .int .i64 (k + i)), (5, .int .i64 i)] [] 10) (fun i => i ≤ n) (fun i => n - i) 0 (by omega) ?_ ?_
  · refine Sub.shape [] id (by omega) ?_ ?_ ?_ ?_ <;> simp [ints_rep]
  · intro i hi
    simp only [go_sem, qA, qB, qC, qD, qE, qF, qG, qH, marksB_length]
    refine branch_intro (fun hc => ?_) (fun hc => ?_)
    · simp only [decide_eq_true_eq] at hc
      have hl : i < n := by omega
      simp only [go_sem, qA, qB, qC, qD, qE, qF, qG, qH, bys_getD (marksB k n) i (by rw [marksB_length]; exact hl), marksB_getD k n i hl, marksB_length, wrap_add k i h0 (by omega), wrap_succ (i := i) (by omega)]
      repeat refine K ?_
      refine back_intro (i + 1) (Sub.shape [] id (by omega) ?_ ?_ ?_ ?_) ?_ ?_
      any_goals (first | omega | (simp [ints_rep]; done))
    · simp only [decide_eq_false_iff_not] at hc
      have : i = n := by omega
      subst this
      simp only [go_sem, qA, qB, qC, qD, qE, qF, qG, qH]
      repeat refine K ?_
      refine ⟨_, Sub.refl _, ?_⟩; simp [FinS, nilL, nilV, oneOr, -List.drop_one]

theorem getFold_snoc (l : List Int) (x : Int) : getFold (l ++ [x]) = addByte (getFold l) x := by simp [getFold]
theorem getBad_iff {b : List Int} {a : Int} : getBad b a = false ↔ 0 ≤ a ∧ a + 9 ≤ b.length ∧ b.getD a.toNat 0 ≤ 1 ∧ b.getD (a + 1).toNat 0 ≤ 127 := by
  unfold getBad
  simp only [Bool.or_eq_false_iff, decide_eq_false_iff_not]
  omega

set_option maxHeartbeats 4000000 in
theorem implGetInt_ok (b : List Int) (a : Int) (ha : i64 a) (hb : b.length < 2 ^ 62) : CallOk Try.prog num 245 [.sl .bw 1 (bys b), .int .i64 a] [] (.tup [.int .i64 (getInt b a).1, .int .i64 (getInt b a).2.1, .bool (getInt b a).2.2]) := by
  refine enter (m := m245) (f := 245) (fn := Try.f161) Try.func161 (by kernel_rfl) rfl c245 rfl (by simp [Try.f161]) (by simp [bnds, bnd, nf_sl, nf_int, nf_bool, nf_str, ints_bnd]) (fun _ _ h => by simp [preH, look] at h) ?_
  unfold m245
  unfold i64 at ha
  have w1 : IntKind.i64.wrap ((b.length : Int) - 9) = b.length - 9 := wrap64 (by omega) (by omega)
  have fin : getBad b a = true → getInt b a = (0, 0, false) := fun h => by unfold getInt; rw [if_pos h]
  by_cases h1 : a < 0
  · have := fin (by simp [getBad, h1])
    rw [this]
    simp only [go_sem, qA, qB, qC, qD, qE, qF, qG, qH, h1]
    repeat refine K ?_
    refine ⟨_, Sub.refl _, FinS_tup (by simp) ?_⟩; simp [-List.drop_one]
  by_cases h2 : (b.length : Int) - 9 < a
  · have := fin (by simp [getBad, h2])
    rw [this]
    simp only [go_sem, qA, qB, qC, qD, qE, qF, qG, qH, h1, w1, h2]
    repeat refine K ?_
    refine ⟨_, Sub.refl _, FinS_tup (by simp) ?_⟩; simp [-List.drop_one]
  have hl : a.toNat < b.length := by omega
  have hl2 : (a + 1).toNat < b.length := by omega
  have w2 : IntKind.i64.wrap (a + 1) = a + 1 := wrap64 (by omega) (by omega)
  by_cases h3 : 1 < b.getD a.toNat 0
  · have := fin (by simp [getBad, h3, -List.getD_eq_getElem?_getD])
    rw [this]
    simp only [go_sem, qA, qB, qC, qD, qE, qF, qG, qH, h1, w1, h2, bys_getD b a.toNat hl, h3]
    repeat refine K ?_
    refine ⟨_, Sub.refl _, FinS_tup (by simp) ?_⟩; simp [-List.drop_one]
  by_cases h4 : 127 < b.getD (a + 1).toNat 0
  · have := fin (by simp [getBad, h4, -List.getD_eq_getElem?_getD])
    rw [this]
    simp only [go_sem, qA, qB, qC, qD, qE, qF, qG, qH, h1, w1, h2, w2, bys_getD b a.toNat hl, bys_getD b (a + 1).toNat hl2, h3, h4]
    repeat refine K ?_
    refine ⟨_, Sub.refl _, FinS_tup (by simp) ?_⟩; simp [-List.drop_one]
  have hgb : getBad b a = false := getBad_iff.2 ⟨by omega, by omega, by omega, by omega⟩
  have hg : getInt b a = (if b.getD a.toNat 0 = 1 then IntKind.i64.wrap (-1 - getFold ((b.drop (a + 1).toNat).take 8)) else getFold ((b.drop (a + 1).toNat).take 8), a + 9, true) := by
    unfold getInt
    rw [if_neg (by rw [hgb]; simp)]
  rw [hg]
  have w3 : IntKind.i64.wrap (a + 9) = a + 9 := wrap64 (by omega) (by omega)
  have e8 : (a + 9).toNat - (a + 1).toNat = 8 := by omega
  obtain ⟨l, hld⟩ : ∃ l, (b.drop (a + 1).toNat).take 8 = l := ⟨_, rfl⟩
  have hlen : l.length = 8 := by rw [← hld, List.length_take, List.length_drop]; omega
  rw [hld]
  simp only [go_sem, qA, qB, qC, qD, qE, qF, qG, qH, h1, w1, h2, w2, w3, bys_getD b a.toNat hl, bys_getD b (a + 1).toNat hl2, h3, h4, bys_drop, bys_take, bys_length, e8, hld, hlen]
  repeat refine K ?_
  refine loop_intro (ι := Nat) (fun i => .mk [(0, .sl .bw 1 (bys b)), (1, .int .i64 a), (7, .int .i64 (getFold (l.take i))), (39, .sl .bw 1 (bys l)), (40, .int .i64 8), (41, .int .i64 i)] [] 10) (fun i => i ≤ 8) (fun i => 8 - i) 0 (by simp) ?_ ?_
  · refine Sub.shape [] id (by omega) ?_ ?_ ?_ ?_ <;> simp [ints_rep]
    all_goals simp [getFold]
  · intro i hi
    by_cases hc : (i : Int) < 8
    · have hi2 : i < l.length := by omega
      have hs : getFold (l.take (i + 1)) = bOr .i64 (bShl .i64 (getFold (l.take i)) 8) (IntKind.i64.wrap (l.getD i 0)) := by rw [take_snoc l 0 i hi2, getFold_snoc]; rfl
      simp only [go_sem, qA, qB, qC, qD, qE, qF, qG, qH, hc, bys_getD l i hi2, shiftA, reduceCtorEq, ← hs, wrap_succ (i := i) (by omega)]
      repeat refine K ?_
      refine back_intro (i + 1) (Sub.shape [] id (by omega) ?_ ?_ ?_ ?_) ?_ ?_
      any_goals (first | omega | (simp [ints_rep]; done))
    · have hie : i = 8 := by omega
      subst hie
      have ht : l.take 8 = l := List.take_of_length_le (by omega)
      rw [ht]
      by_cases h5 : b.getD a.toNat 0 = 1
      · simp only [go_sem, qA, qB, qC, qD, qE, qF, qG, qH, hc, bys_getD b a.toNat hl, h5, w3]
        repeat refine K ?_
        refine ⟨_, Sub.refl _, FinS_tup (by simp) ?_⟩; simp [-List.drop_one]
      · simp only [go_sem, qA, qB, qC, qD, qE, qF, qG, qH, hc, bys_getD b a.toNat hl, h5, w3]
        repeat refine K ?_
        refine ⟨_, Sub.refl _, FinS_tup (by simp) ?_⟩; simp [-List.drop_one]

set_option maxHeartbeats 4000000 in
theorem specGetInt_ok (b : List Int) (a : Int) (ha : i64 a) (hb : b.length < 2 ^ 62) : CallOk Try.prog num 242 [.sl .bw 1 (bys b), .int .i64 a] [] (.tup [.int .i64 (getInt b a).1, .int .i64 (getInt b a).2.1, .bool (getInt b a).2.2]) := by
  refine enter (m := m242) (f := 242) (fn := Try.f156) Try.func156 (by kernel_rfl) rfl c242 rfl (by simp [Try.f156]) (by simp [bnds, bnd, nf_sl, nf_int, nf_bool, nf_str, ints_bnd]) (fun _ _ h => by simp [preH, look] at h) ?_
  unfold m242
  unfold i64 at ha
  have w1 : IntKind.i64.wrap ((b.length : Int) - 9) = b.length - 9 := wrap64 (by omega) (by omega)
  have fin : getBad b a = true → getInt b a = (0, 0, false) := fun h => by unfold getInt; rw [if_pos h]
  by_cases h1 : a < 0
  · have := fin (by simp [getBad, h1])
    rw [this]
    simp only [go_sem, qA, qB, qC, qD, qE, qF, qG, qH, h1]
    repeat refine K ?_
    refine ⟨_, Sub.refl _, FinS_tup (by simp) ?_⟩; simp [-List.drop_one]
  by_cases h2 : (b.length : Int) - 9 < a
  · have := fin (by simp [getBad, h2])
    rw [this]
    simp only [go_sem, qA, qB, qC, qD, qE, qF, qG, qH, h1, w1, h2]
    repeat refine K ?_
    refine ⟨_, Sub.refl _, FinS_tup (by simp) ?_⟩; simp [-List.drop_one]
  have hl : a.toNat < b.length := by omega
  have hl2 : (a + 1).toNat < b.length := by omega
  have w2 : IntKind.i64.wrap (a + 1) = a + 1 := wrap64 (by omega) (by omega)
  by_cases h3 : 1 < b.getD a.toNat 0
  · have := fin (by simp [getBad, h3, -List.getD_eq_getElem?_getD])
    rw [this]
    simp only [go_sem, qA, qB, qC, qD, qE, qF, qG, qH, h1, w1, h2, bys_getD b a.toNat hl, h3]
    repeat refine K ?_
    refine ⟨_, Sub.refl _, FinS_tup (by simp) ?_⟩; simp [-List.drop_one]
  by_cases h4 : 127 < b.getD (a + 1).toNat 0
  · have := fin (by simp [getBad, h4, -List.getD_eq_getElem?_getD])
    rw [this]
    simp only [go_sem, qA, qB, qC, qD, qE, qF, qG, qH, h1, w1, h2, w2, bys_getD b a.toNat hl, bys_getD b (a + 1).toNat hl2, h3, h4]
    repeat refine K ?_
    refine ⟨_, Sub.refl _, FinS_tup (by simp) ?_⟩; simp [-List.drop_one]
  have hgb : getBad b a = false := getBad_iff.2 ⟨by omega, by omega, by omega, by omega⟩
  have hg : getInt b a = (if b.getD a.toNat 0 = 1 then IntKind.i64.wrap (-1 - getFold ((b.drop (a + 1).toNat).take 8)) else getFold ((b.drop (a + 1).toNat).take 8), a + 9, true) := by
    unfold getInt
    rw [if_neg (by rw [hgb]; simp)]
  rw [hg]
  have w3 : IntKind.i64.wrap (a + 9) = a + 9 := wrap64 (by omega) (by omega)
  have e8 : (a + 9).toNat - (a + 1).toNat = 8 := by omega
  obtain ⟨l, hld⟩ : ∃ l, (b.drop (a + 1).toNat).take 8 = l := ⟨_, rfl⟩
  have hlen : l.length = 8 := by rw [← hld, List.length_take, List.length_drop]; omega
  rw [hld]
  simp only [go_sem, qA, qB, qC, qD, qE, qF, qG, qH, h1, w1, h2, w2, bys_getD b a.toNat hl, bys_getD b (a + 1).toNat hl2, h3, h4]
  repeat refine K ?_
  refine loop_intro (ι := Nat) (fun i => .mk [(0, .sl .bw 1 (bys b)), (1, .int .i64 a), (7, .int .i64 (getFold (l.take i))), (8, .int .i64 ((i : Int) + 1))] [] 10) (fun i => i ≤ 8) (fun i => 8 - i) 0 (by simp) ?_ ?_
  · refine Sub.shape [] id (by omega) ?_ ?_ ?_ ?_ <;> simp [ints_rep]
    all_goals simp [getFold]
  · intro i hi
    by_cases hc : i < 8
    · have hc' : (i : Int) + 1 < 9 := by omega
      have hi2 : i < l.length := by omega
      have w4 : IntKind.i64.wrap (a + ((i : Int) + 1)) = a + (i + 1) := wrap64 (by omega) (by omega)
      have w5 : IntKind.i64.wrap ((i : Int) + 1 + 1) = ((i + 1 : Nat) : Int) + 1 := by rw [wrap64 (by omega) (by omega)]; omega
      have hx : (a + ((i : Int) + 1)).toNat < b.length := by omega
      have hgx : b.getD (a + ((i : Int) + 1)).toNat 0 = l.getD i 0 := by
        rw [← hld]
        have : (a + ((i : Int) + 1)).toNat = (a + 1).toNat + i := by omega
        rw [this]
        simp [List.getD_eq_getElem?_getD, List.getElem?_take, hc]
      have hs : getFold (l.take (i + 1)) = bOr .i64 (bShl .i64 (getFold (l.take i)) 8) (IntKind.i64.wrap (l.getD i 0)) := by rw [take_snoc l 0 i hi2, getFold_snoc]; rfl
      simp only [go_sem, qA, qB, qC, qD, qE, qF, qG, qH, hc', w4, w5, bys_getD b _ hx, hgx, shiftA, reduceCtorEq, ← hs]
      repeat refine K ?_
      refine back_intro (i + 1) (Sub.shape [] id (by omega) ?_ ?_ ?_ ?_) ?_ ?_
      any_goals (first | omega | (simp [ints_rep]; done))
    · have hie : i = 8 := by omega
      subst hie
      have hc' : ¬ (((8 : Nat) : Int) + 1 < 9) := by omega
      have ht : l.take 8 = l := List.take_of_length_le (by omega)
      rw [ht]
      by_cases h5 : b.getD a.toNat 0 = 1
      · simp only [go_sem, qA, qB, qC, qD, qE, qF, qG, qH, hc', bys_getD b a.toNat hl, h5, w3]
        repeat refine K ?_
        refine ⟨_, Sub.refl _, FinS_tup (by simp) ?_⟩; simp [-List.drop_one]
      · simp only [go_sem, qA, qB, qC, qD, qE, qF, qG, qH, hc', bys_getD b a.toNat hl, h5, w3]
        repeat refine K ?_
        refine ⟨_, Sub.refl _, FinS_tup (by simp) ?_⟩; simp [-List.drop_one]

def thBytes (t : Thread) : List Int := putAll [t.at_, t.st] ++ putAll t.regs
def chBytes (c : Chan) : List Int := putAll [(c.list.length : Int)] ++ (putAll c.list ++ putAll [numb c.closed])
def ntBytes (n : Note) : List Int := putAll [n.who, n.v]
def srcBytes (s : Source) : List Int := s.ths.flatMap thBytes ++ (s.chs.flatMap chBytes ++ (putAll [(s.tr.length : Int)] ++ s.tr.flatMap ntBytes))
theorem flat_len {α : Type} (w : α → Nat) (f : α → List Int) (h : ∀ x, (f x).length = 9 * w x) : ∀ (l : List α), (l.flatMap f).length = 9 * tots w l
  | [] => rfl
  | a :: l => by simp only [List.flatMap_cons, List.length_append, h, flat_len w f h l, tots]; omega
theorem flat_take {α : Type} (f : α → List Int) (d : α) (l : List α) (i : Nat) (h : i < l.length) : (l.take (i + 1)).flatMap f = (l.take i).flatMap f ++ f (l.getD i d) := by rw [take_snoc l d i h]; simp
theorem thBytes_len (t : Thread) : (thBytes t).length = 9 * wThread t := by simp only [thBytes, List.length_append, putAll_length, wThread, List.length_cons, List.length_nil]; omega
theorem chBytes_len (c : Chan) : (chBytes c).length = 9 * wChan c := by simp only [chBytes, List.length_append, putAll_length, wChan, List.length_cons, List.length_nil]; omega
theorem ntBytes_len (n : Note) : (ntBytes n).length = 9 * wNote n := by simp only [ntBytes, putAll_length, wNote, List.length_cons, List.length_nil]
theorem pt1 (a : Int) : (putAll [a]).take 9 = putAll [a] := rfl
theorem pt2 (a b : Int) : (putAll [a, b]).take 18 = putAll [a, b] := rfl
theorem ptl (l : List Int) : (putAll l).take (9 * l.length) = putAll l := List.take_of_length_le (by rw [putAll_length]; omega)
theorem pl1 (a : Int) : (putAll [a]).length = 9 := rfl
theorem pl2 (a b : Int) : (putAll [a, b]).length = 18 := rfl
theorem ints_two (a b : Int) : [[AV.int .i64 a], [.int .i64 b]] = ints [a, b] := rfl
theorem ints_single (a : Int) : [[AV.int .i64 a]] = ints [a] := rfl

set_option maxHeartbeats 4000000 in
theorem implSourceBytes_ok (s : Source) (hs : SrcSz s 2097152) : CallOk Try.prog num 198 [.fptr .bw (sourceC .bw s) 0] [] (.sl .own 1 (bys (srcBytes s))) := by
  obtain ⟨s1, s2, s3, s4, s5, s6⟩ := hs
  have s6' : tots wThread s.ths + tots wChan s.chs + tots wNote s.tr ≤ 4194304 := s6
  refine enter (m := m198) (f := 198) (fn := Try.f81) Try.func81 (by kernel_rfl) rfl c198 rfl (by simp [Try.f81]) (by simp [bnds, bnd, nf_sl, nf_int, nf_bool, nf_str, ints_bnd]) (fun _ _ h => by simp [preH, look] at h) ?_
  unfold m198
  simp only [go_sem, qA, qB, qC, qD, qE, qF, qG, qH]
  repeat refine K ?_
  refine loop_intro (ι := Nat) (fun i => .mk [(0, .fptr .bw (sourceC .bw s) 0), (3, .ns 10 0 (9 * tots wThread (s.ths.take i))), (14, .sl .bw 3 (threads .bw s.ths)), (15, .int .i64 s.ths.length), (16, .int .i64 i)] [(10, 1, bys ((s.ths.take i).flatMap thBytes))] 11) (fun i => i ≤ s.ths.length) (fun i => s.ths.length - i) 0 (by simp) ?_ ?_
  · refine Sub.shape [] id (by omega) ?_ ?_ ?_ ?_ <;> simp [ints_rep]
    all_goals simp [tots, bys]
  · intro i hi
    have hlen := flat_len wThread thBytes thBytes_len (s.ths.take i)
    have hle := tots_take_le wThread s.ths (i + 1)
    simp only [go_sem, qA, qB, qC, qD, qE, qF, qG, qH]
    refine branch_intro (fun hc => ?_) (fun hc => ?_)
    · simp only [decide_eq_true_eq] at hc
      have hi' : i < s.ths.length := by omega
      have ht := tots_take wThread s.ths default i hi'
      have hw : wThread (s.ths.getD i default) = 2 + (s.ths.getD i default).regs.length := rfl
      have hr := s4 _ (getD_mem s.ths i default hi')
      simp only [go_sem, qA, qB, qC, qD, qE, qF, qG, qH, threads_getD .bw s.ths i hi', hlen, ints_two]
      repeat refine K ?_
      refine CA [] (implPutInts_ok [(s.ths.getD i default).at_, (s.ths.getD i default).st] (by simp)) ?_
      try simp only [go_sem, qA, qB, qC, qD, qE, qF, qG, qH]
      repeat refine K ?_
      try simp only [go_sem, qA, qB, qC, qD, qE, qF, qG, qH, hlen, pl1, pl2, pt1, pt2, ptl, putAll_length, bys_app, List.length_append]
      repeat refine K ?_
      refine CA [] (implPutInts_ok (s.ths.getD i default).regs (by omega)) ?_
      try simp only [go_sem, qA, qB, qC, qD, qE, qF, qG, qH]
      repeat refine K ?_
      have e9 : 9 * tots wThread (s.ths.take i) + 18 + 9 * (s.ths.getD i default).regs.length = 9 * tots wThread (s.ths.take (i + 1)) := by omega
      try simp only [go_sem, qA, qB, qC, qD, qE, qF, qG, qH, hlen, e9, pl1, pl2, pt1, pt2, ptl, putAll_length, bys_app, List.length_append, wrap_succ (i := i) (by omega)]
      repeat refine K ?_
      refine back_intro (i + 1) ?_ hi' (by omega)
      rw [flat_take thBytes default s.ths i hi']
      refine Sub.shape [] (fun n => if n = 10 then 16 else n) (by omega) ?_ ?_ ?_ ?_ <;> simp [ints_rep]
      all_goals first | omega | exact .inl (by simp [thBytes])
    · simp only [decide_eq_false_iff_not] at hc
      have he : s.ths.take i = s.ths := List.take_of_length_le (by omega)
      rw [he] at hlen ⊢
      simp only [go_sem, qA, qB, qC, qD, qE, qF, qG, qH, hlen]
      repeat refine K ?_
      refine loop_intro (ι := Nat) (fun i => .mk [(0, .fptr .bw (sourceC .bw s) 0), (3, .ns 10 0 (9 * (tots wThread s.ths + tots wChan (s.chs.take i)))), (37, .sl .bw 3 (chans .bw s.chs)), (38, .int .i64 s.chs.length), (39, .int .i64 i)] [(10, 1, bys (s.ths.flatMap thBytes ++ (s.chs.take i).flatMap chBytes))] 11) (fun i => i ≤ s.chs.length) (fun i => s.chs.length - i) 0 (by simp) ?_ ?_
      · refine Sub.shape [] id (by omega) ?_ ?_ ?_ ?_ <;> simp [ints_rep]
        all_goals simp [tots]
      · clear hc hle hi he
        clear i
        intro i hi
        have hlen2 := flat_len wChan chBytes chBytes_len (s.chs.take i)
        have hle := tots_take_le wChan s.chs (i + 1)
        simp only [go_sem, qA, qB, qC, qD, qE, qF, qG, qH]
        refine branch_intro (fun hc => ?_) (fun hc => ?_)
        · simp only [decide_eq_true_eq] at hc
          have hi' : i < s.chs.length := by omega
          have ht := tots_take wChan s.chs default i hi'
          have hw : wChan (s.chs.getD i default) = 2 + (s.chs.getD i default).list.length := rfl
          have hr := s5 _ (getD_mem s.chs i default hi')
          simp only [go_sem, qA, qB, qC, qD, qE, qF, qG, qH, chans_getD .bw s.chs i hi', hlen, hlen2, ints_single, List.length_append]
          repeat refine K ?_
          refine CA [] (implPutInts_ok [((s.chs.getD i default).list.length : Int)] (by simp)) ?_
          try simp only [go_sem, qA, qB, qC, qD, qE, qF, qG, qH]
          repeat refine K ?_
          try simp only [go_sem, qA, qB, qC, qD, qE, qF, qG, qH, hlen, hlen2, pl1, pl2, pt1, pt2, ptl, putAll_length, bys_app, List.length_append]
          repeat refine K ?_
          refine CA [] (implPutInts_ok (s.chs.getD i default).list (by omega)) ?_
          try simp only [go_sem, qA, qB, qC, qD, qE, qF, qG, qH]
          repeat refine K ?_
          try simp only [go_sem, qA, qB, qC, qD, qE, qF, qG, qH, hlen, hlen2, ints_single, pl1, pl2, pt1, pt2, ptl, putAll_length, bys_app, List.length_append]
          repeat refine K ?_
          refine CA [] (number_ok (s.chs.getD i default).closed) ?_
          try simp only [go_sem, qA, qB, qC, qD, qE, qF, qG, qH]
          repeat refine K ?_
          try simp only [go_sem, qA, qB, qC, qD, qE, qF, qG, qH, hlen, hlen2, ints_single, pl1, pl2, pt1, pt2, ptl, putAll_length, bys_app, List.length_append]
          repeat refine K ?_
          refine CA [] (implPutInts_ok [numb (s.chs.getD i default).closed] (by simp)) ?_
          try simp only [go_sem, qA, qB, qC, qD, qE, qF, qG, qH]
          repeat refine K ?_
          have e9 : 9 * (tots wThread s.ths + tots wChan (s.chs.take i)) + 9 + 9 * (s.chs.getD i default).list.length + 9 = 9 * (tots wThread s.ths + tots wChan (s.chs.take (i + 1))) := by omega
          try simp only [go_sem, qA, qB, qC, qD, qE, qF, qG, qH, hlen, e9, hlen2, pl1, pl2, pt1, pt2, ptl, putAll_length, bys_app, List.length_append, wrap_succ (i := i) (by omega)]
          repeat refine K ?_
          refine back_intro (i + 1) ?_ hi' (by omega)
          rw [flat_take chBytes default s.chs i hi']
          refine Sub.shape [] (fun n => if n = 10 then 19 else n) (by omega) ?_ ?_ ?_ ?_ <;> simp [ints_rep]
          all_goals first | omega | exact .inl (by simp [chBytes])
        · simp only [decide_eq_false_iff_not] at hc
          have he : s.chs.take i = s.chs := List.take_of_length_le (by omega)
          rw [he] at hlen2 ⊢
          simp only [go_sem, qA, qB, qC, qD, qE, qF, qG, qH, hlen, hlen2, ints_single, List.length_append]
          repeat refine K ?_
          refine CA [] (implPutInts_ok [(s.tr.length : Int)] (by simp)) ?_
          try simp only [go_sem, qA, qB, qC, qD, qE, qF, qG, qH]
          repeat refine K ?_
          try simp only [go_sem, qA, qB, qC, qD, qE, qF, qG, qH, hlen, hlen2, pl1, pl2, pt1, pt2, ptl, putAll_length, bys_app, List.length_append]
          repeat refine K ?_
          refine loop_intro (ι := Nat) (fun i => .mk [(3, .ns 10 0 (9 * (tots wThread s.ths + tots wChan s.chs) + 9 + 18 * i)), (75, .sl .bw 2 (notes s.tr)), (76, .int .i64 s.tr.length), (77, .int .i64 i)] [(10, 1, bys (s.ths.flatMap thBytes ++ s.chs.flatMap chBytes ++ putAll [(s.tr.length : Int)] ++ (s.tr.take i).flatMap ntBytes))] 11) (fun i => i ≤ s.tr.length) (fun i => s.tr.length - i) 0 (by simp) ?_ ?_
          · refine Sub.shape [] (fun n => if n = 10 then 13 else n) (by omega) ?_ ?_ ?_ ?_ <;> simp [ints_rep]
            all_goals omega
          · clear hc hle hi he
            clear i
            intro i hi
            have hlen3 : ((s.tr.take i).flatMap ntBytes).length = 18 * i := by
              rw [flat_len wNote ntBytes ntBytes_len, show tots wNote (s.tr.take i) = 2 * (s.tr.take i).length from tots_const 2 _, List.length_take]
              omega
            simp only [go_sem, qA, qB, qC, qD, qE, qF, qG, qH]
            refine branch_intro (fun hc => ?_) (fun hc => ?_)
            · simp only [decide_eq_true_eq] at hc
              have hi' : i < s.tr.length := by omega
              simp only [go_sem, qA, qB, qC, qD, qE, qF, qG, qH, notes_getD s.tr i hi', hlen, hlen2, hlen3, ints_two, pl1, pl2, pt1, pt2, ptl, putAll_length, bys_app, List.length_append]
              repeat refine K ?_
              refine CA [] (implPutInts_ok [(s.tr.getD i default).who, (s.tr.getD i default).v] (by simp)) ?_
              try simp only [go_sem, qA, qB, qC, qD, qE, qF, qG, qH]
              repeat refine K ?_
              try simp only [go_sem, qA, qB, qC, qD, qE, qF, qG, qH, hlen, hlen2, hlen3, pl1, pl2, pt1, pt2, ptl, putAll_length, bys_app, List.length_append, wrap_succ (i := i) (by omega)]
              repeat refine K ?_
              refine back_intro (i + 1) ?_ hi' (by omega)
              rw [flat_take ntBytes default s.tr i hi']
              refine Sub.shape [] (fun n => if n = 10 then 14 else n) (by omega) ?_ ?_ ?_ ?_ <;> simp [ints_rep]
              all_goals first | omega | exact .inl (by simp [ntBytes]) | (simp [ntBytes]; done)
            · simp only [decide_eq_false_iff_not] at hc
              have he : s.tr.take i = s.tr := List.take_of_length_le (by omega)
              have hie : i = s.tr.length := by omega
              rw [he] at hlen3 ⊢
              have e : s.ths.flatMap thBytes ++ s.chs.flatMap chBytes ++ putAll [(s.tr.length : Int)] ++ s.tr.flatMap ntBytes = srcBytes s := by simp [srcBytes]
              have hn : 9 * (tots wThread s.ths + tots wChan s.chs) + 9 + 18 * i = (srcBytes s).length := by rw [← e]; simp only [List.length_append, hlen, hlen2, hlen3, pl1]; omega
              rw [e, hn]
              simp only [go_sem, qA, qB, qC, qD, qE, qF, qG, qH]
              repeat refine K ?_
              refine ⟨_, Sub.refl _, ?_⟩; simp [FinS, nilL, nilV, oneOr, -List.drop_one]

theorem pa1 (a : Int) : putInt a = putAll [a] := by simp [putAll]
set_option maxHeartbeats 4000000 in
theorem specSourceBytes_ok (p : Prog) (s : Source) (hp : SmallP p) (hs : SrcSz s 2097152) : CallOk Try.prog num 194 [.agg (progC .bw p), .agg (sourceC .bw s)] [] (.sl .own 1 (bys (if sourceOk p s then srcBytes s else []))) := by
  have hss := hs.small (by decide)
  obtain ⟨s1, s2, s3, s4, s5, s6⟩ := hs
  have s6' : tots wThread s.ths + tots wChan s.chs + tots wNote s.tr ≤ 4194304 := s6
  refine enter (m := m194) (f := 194) (fn := Try.f74) Try.func74 (by kernel_rfl) rfl c194 rfl (by simp [Try.f74]) (by simp [bnds, bnd, nf_sl, nf_int, nf_bool, nf_str, ints_bnd]) (fun _ _ h => by simp [preH, look] at h) ?_
  unfold m194
  simp only [go_sem, qA, qB, qC, qD, qE, qF, qG, qH]
  repeat refine K ?_
  refine CA [] (specSourceOk_ok p s hp hss) ?_
  try simp only [go_sem, qA, qB, qC, qD, qE, qF, qG, qH]
  repeat refine K ?_
  cases hok : sourceOk p s
  · try simp only [go_sem, qA, qB, qC, qD, qE, qF, qG, qH, hok]
    repeat refine K ?_
    refine ⟨_, Sub.refl _, ?_⟩; simp [FinS, nilL, nilV, oneOr, -List.drop_one]
  try simp only [go_sem, qA, qB, qC, qD, qE, qF, qG, qH, hok]
  repeat refine K ?_
  refine loop_intro (ι := Nat) (fun i => .mk [(3, .ptr 11 0 0), (5, .ns 12 0 (9 * tots wThread (s.ths.take i))), (6, .int .i64 i)] [(11, 3, [sourceC .bw s]), (12, 1, bys ((s.ths.take i).flatMap thBytes))] 13) (fun i => i ≤ s.ths.length) (fun i => s.ths.length - i) 0 (by simp) ?_ ?_
  · refine Sub.shape [] id (by omega) ?_ ?_ ?_ ?_ <;> simp [ints_rep]
    all_goals simp [tots, bys]
  · intro i hi
    have hlen := flat_len wThread thBytes thBytes_len (s.ths.take i)
    have hle := tots_take_le wThread s.ths (i + 1)
    simp only [go_sem, qA, qB, qC, qD, qE, qF, qG, qH]
    repeat refine K ?_
    refine branch_intro (fun hc => ?_) (fun hc => ?_)
    · simp only [decide_eq_true_eq] at hc
      have hi' : i < s.ths.length := by omega
      have ht := tots_take wThread s.ths default i hi'
      have hw : wThread (s.ths.getD i default) = 2 + (s.ths.getD i default).regs.length := rfl
      have hr := s4 _ (getD_mem s.ths i default hi')
      simp only [go_sem, qA, qB, qC, qD, qE, qF, qG, qH, threads_getD .bw s.ths i hi', hlen, ints_two]
      repeat refine K ?_
      refine CA [] (specPutInts_ok [(s.ths.getD i default).at_, (s.ths.getD i default).st] (by simp)) ?_
      try simp only [go_sem, qA, qB, qC, qD, qE, qF, qG, qH]
      repeat refine K ?_
      try simp only [go_sem, qA, qB, qC, qD, qE, qF, qG, qH, hlen, pa1, pl1, pl2, pt1, pt2, ptl, putAll_length, bys_app, List.length_append]
      repeat refine K ?_
      refine CA [] (specPutInts_ok (s.ths.getD i default).regs (by omega)) ?_
      try simp only [go_sem, qA, qB, qC, qD, qE, qF, qG, qH]
      repeat refine K ?_
      have e9 : 9 * tots wThread (s.ths.take i) + 18 + 9 * (s.ths.getD i default).regs.length = 9 * tots wThread (s.ths.take (i + 1)) := by omega
      try simp only [go_sem, qA, qB, qC, qD, qE, qF, qG, qH, hlen, e9, pa1, pl1, pl2, pt1, pt2, ptl, putAll_length, bys_app, List.length_append, wrap_succ (i := i) (by omega)]
      repeat refine K ?_
      refine back_intro (i + 1) ?_ hi' (by omega)
      rw [flat_take thBytes default s.ths i hi']
      refine Sub.shape [] (fun n => if n = 12 then 18 else n) (by omega) ?_ ?_ ?_ ?_ <;> simp [ints_rep]
      all_goals first | omega | exact .inl (by simp [thBytes])
    · simp only [decide_eq_false_iff_not] at hc
      have he : s.ths.take i = s.ths := List.take_of_length_le (by omega)
      rw [he] at hlen ⊢
      simp only [go_sem, qA, qB, qC, qD, qE, qF, qG, qH, hlen]
      repeat refine K ?_
      refine loop_intro (ι := Nat) (fun i => .mk [(3, .ptr 11 0 0), (5, .ns 12 0 (9 * (tots wThread s.ths + tots wChan (s.chs.take i)))), (8, .int .i64 i)] [(11, 3, [sourceC .bw s]), (12, 1, bys (s.ths.flatMap thBytes ++ (s.chs.take i).flatMap chBytes))] 13) (fun i => i ≤ s.chs.length) (fun i => s.chs.length - i) 0 (by simp) ?_ ?_
      · refine Sub.shape [] id (by omega) ?_ ?_ ?_ ?_ <;> simp [ints_rep]
        all_goals simp [tots]
      · clear hc hle hi he
        clear i
        intro i hi
        have hlen2 := flat_len wChan chBytes chBytes_len (s.chs.take i)
        have hle := tots_take_le wChan s.chs (i + 1)
        simp only [go_sem, qA, qB, qC, qD, qE, qF, qG, qH]
        repeat refine K ?_
        refine branch_intro (fun hc => ?_) (fun hc => ?_)
        · simp only [decide_eq_true_eq] at hc
          have hi' : i < s.chs.length := by omega
          have ht := tots_take wChan s.chs default i hi'
          have hw : wChan (s.chs.getD i default) = 2 + (s.chs.getD i default).list.length := rfl
          have hr := s5 _ (getD_mem s.chs i default hi')
          simp only [go_sem, qA, qB, qC, qD, qE, qF, qG, qH, chans_getD .bw s.chs i hi', hlen, hlen2, ints_single, List.length_append]
          repeat refine K ?_
          refine CA [] (specPutInt_ok ((s.chs.getD i default).list.length : Int)) ?_
          try simp only [go_sem, qA, qB, qC, qD, qE, qF, qG, qH]
          repeat refine K ?_
          try simp only [go_sem, qA, qB, qC, qD, qE, qF, qG, qH, hlen, hlen2, pa1, pl1, pl2, pt1, pt2, ptl, putAll_length, bys_app, List.length_append]
          repeat refine K ?_
          refine CA [] (specPutInts_ok (s.chs.getD i default).list (by omega)) ?_
          try simp only [go_sem, qA, qB, qC, qD, qE, qF, qG, qH]
          repeat refine K ?_
          try simp only [go_sem, qA, qB, qC, qD, qE, qF, qG, qH, hlen, hlen2, ints_single, pa1, pl1, pl2, pt1, pt2, ptl, putAll_length, bys_app, List.length_append]
          repeat refine K ?_
          refine CA [] (l4Bit_ok (s.chs.getD i default).closed) ?_
          try simp only [go_sem, qA, qB, qC, qD, qE, qF, qG, qH]
          repeat refine K ?_
          try simp only [go_sem, qA, qB, qC, qD, qE, qF, qG, qH, hlen, hlen2, ints_single, pa1, pl1, pl2, pt1, pt2, ptl, putAll_length, bys_app, List.length_append]
          repeat refine K ?_
          refine CA [] (specPutInt_ok (numb (s.chs.getD i default).closed)) ?_
          try simp only [go_sem, qA, qB, qC, qD, qE, qF, qG, qH]
          repeat refine K ?_
          have e9 : 9 * (tots wThread s.ths + tots wChan (s.chs.take i)) + 9 + 9 * (s.chs.getD i default).list.length + 9 = 9 * (tots wThread s.ths + tots wChan (s.chs.take (i + 1))) := by omega
          try simp only [go_sem, qA, qB, qC, qD, qE, qF, qG, qH, hlen, e9, hlen2, pa1, pl1, pl2, pt1, pt2, ptl, putAll_length, bys_app, List.length_append, wrap_succ (i := i) (by omega)]
          repeat refine K ?_
          refine back_intro (i + 1) ?_ hi' (by omega)
          rw [flat_take chBytes default s.chs i hi']
          refine Sub.shape [] (fun n => if n = 12 then 19 else n) (by omega) ?_ ?_ ?_ ?_ <;> simp [ints_rep]
          all_goals first | omega | exact .inl (by simp [chBytes])
        · simp only [decide_eq_false_iff_not] at hc
          have he : s.chs.take i = s.chs := List.take_of_length_le (by omega)
          rw [he] at hlen2 ⊢
          simp only [go_sem, qA, qB, qC, qD, qE, qF, qG, qH, hlen, hlen2, ints_single, List.length_append]
          repeat refine K ?_
          refine CA [] (specPutInt_ok (s.tr.length : Int)) ?_
          try simp only [go_sem, qA, qB, qC, qD, qE, qF, qG, qH]
          repeat refine K ?_
          try simp only [go_sem, qA, qB, qC, qD, qE, qF, qG, qH, hlen, hlen2, pa1, pl1, pl2, pt1, pt2, ptl, putAll_length, bys_app, List.length_append]
          repeat refine K ?_
          refine loop_intro (ι := Nat) (fun i => .mk [(3, .ptr 11 0 0), (5, .ns 12 0 (9 * (tots wThread s.ths + tots wChan s.chs) + 9 + 18 * i)), (10, .int .i64 i)] [(11, 3, [sourceC .bw s]), (12, 1, bys (s.ths.flatMap thBytes ++ s.chs.flatMap chBytes ++ putAll [(s.tr.length : Int)] ++ (s.tr.take i).flatMap ntBytes))] 13) (fun i => i ≤ s.tr.length) (fun i => s.tr.length - i) 0 (by simp) ?_ ?_
          · refine Sub.shape [] (fun n => if n = 12 then 14 else n) (by omega) ?_ ?_ ?_ ?_ <;> simp [ints_rep]
            all_goals omega
          · clear hc hle hi he
            clear i
            intro i hi
            have hlen3 : ((s.tr.take i).flatMap ntBytes).length = 18 * i := by
              rw [flat_len wNote ntBytes ntBytes_len, show tots wNote (s.tr.take i) = 2 * (s.tr.take i).length from tots_const 2 _, List.length_take]
              omega
            simp only [go_sem, qA, qB, qC, qD, qE, qF, qG, qH]
            repeat refine K ?_
            refine branch_intro (fun hc => ?_) (fun hc => ?_)
            · simp only [decide_eq_true_eq] at hc
              have hi' : i < s.tr.length := by omega
              simp only [go_sem, qA, qB, qC, qD, qE, qF, qG, qH, notes_getD s.tr i hi', hlen, hlen2, hlen3, ints_two, pa1, pl1, pl2, pt1, pt2, ptl, putAll_length, bys_app, List.length_append]
              repeat refine K ?_
              refine DA [] (specPutInts_ok [(s.tr.getD i default).who, (s.tr.getD i default).v] (by simp)) ?_
              try simp only [go_sem, qA, qB, qC, qD, qE, qF, qG, qH]
              repeat refine K ?_
              try simp only [go_sem, qA, qB, qC, qD, qE, qF, qG, qH, hlen, hlen2, hlen3, pa1, pl1, pl2, pt1, pt2, ptl, putAll_length, bys_app, List.length_append, wrap_succ (i := i) (by omega)]
              repeat refine K ?_
              refine back_intro (i + 1) ?_ hi' (by omega)
              rw [flat_take ntBytes default s.tr i hi']
              refine Sub.shape [] (fun n => if n = 12 then 15 else n) (by omega) ?_ ?_ ?_ ?_ <;> simp [ints_rep]
              all_goals first | omega | exact .inl (by simp [ntBytes]) | (simp [ntBytes]; done)
            · simp only [decide_eq_false_iff_not] at hc
              have he : s.tr.take i = s.tr := List.take_of_length_le (by omega)
              have hie : i = s.tr.length := by omega
              rw [he] at hlen3 ⊢
              have e : s.ths.flatMap thBytes ++ s.chs.flatMap chBytes ++ putAll [(s.tr.length : Int)] ++ s.tr.flatMap ntBytes = srcBytes s := by simp [srcBytes]
              have hn : 9 * (tots wThread s.ths + tots wChan s.chs) + 9 + 18 * i = (srcBytes s).length := by rw [← e]; simp only [List.length_append, hlen, hlen2, hlen3, pl1]; omega
              rw [e, hn]
              simp only [go_sem, qA, qB, qC, qD, qE, qF, qG, qH]
              repeat refine K ?_
              refine ⟨_, Sub.refl _, ?_⟩; simp [FinS, nilL, nilV, oneOr, -List.drop_one]

/-- A reader of numbers: where it stands, and whether something was none. -/
structure Rd where
  a : Int
  bad : Bool
def rdC (b : List Int) (r : Rd) : List AV := [.sl .fz 1 (bys b), .int .i64 r.a, .bool r.bad]
def rdS (b : List Int) (r : Rd) : List AV := [.sl .fz 1 (bys b), .int .i64 r.a, .bool (!r.bad)]
attribute [local simp] rdC rdS
def Rd.In (b : List Int) (r : Rd) : Prop := 0 ≤ r.a ∧ r.a ≤ b.length
def rdNum (b : List Int) (r : Rd) : Int × Rd := if r.bad = true ∨ (getInt b r.a).2.2 = false then (0, ⟨r.a, true⟩) else ((getInt b r.a).1, ⟨(getInt b r.a).2.1, false⟩)
theorem rdNum_in {b : List Int} {r : Rd} (h : r.In b) : (rdNum b r).2.In b := by
  unfold rdNum
  split
  · exact h
  · rename_i hx
    have hg : (getInt b r.a).2.2 = true := by cases hg : (getInt b r.a).2.2 with
      | true => rfl
      | false => exact absurd (.inr hg) hx
    unfold getInt at hg ⊢
    split at hg
    · simp at hg
    · rename_i hb
      rw [if_neg hb]
      have := getBad_iff.1 (by simpa using hb)
      obtain ⟨h0, h1⟩ := h
      exact ⟨by simp only; omega, by simp only; omega⟩

theorem reader_number_ok (b : List Int) (r : Rd) (hr : r.In b) (hb : b.length < 2 ^ 62) : CallOk Try.prog num 195 [.ptr 0 0 0] [(0, some (3, [rdC b r]), some (3, [rdC b (rdNum b r).2]))] (.int .i64 (rdNum b r).1) := by
  obtain ⟨h0, h1⟩ := hr
  refine enter (m := m195) (f := 195) (fn := Try.f76) Try.func76 (by kernel_rfl) rfl c195 rfl (by simp [Try.f76]) (by simp [bnds, bnd, nf_sl, nf_int, nf_bool, nf_str, ints_bnd]) (by first | (simp [preH, hb_nil, hb_cons, ints_bnd]; done) | exact hb_cons _ _ _ _ ((hb_nil _).2 trivial) (by decide) (by simp [ints_bnd, bndr, bnds, bnd])) ?_
  unfold m195
  simp only [go_sem, qA, qB, qC, qD, qE, qF, qG, qH, rdC]
  repeat refine K ?_
  refine DA [] (implGetInt_ok b r.a ⟨by omega, by omega⟩ hb) ?_
  try simp only [go_sem, qA, qB, qC, qD, qE, qF, qG, qH]
  repeat refine K ?_
  try simp only [go_sem, qA, qB, qC, qD, qE, qF, qG, qH]
  repeat refine K ?_
  cases hbad : r.bad
  · cases hg : (getInt b r.a).2.2
    · try simp only [go_sem, qA, qB, qC, qD, qE, qF, qG, qH, hbad, hg]
      repeat refine K ?_
      apply fin_one
      · exact Sub.refl _
      · simp [-List.drop_one, -gD, rdNum, hbad, hg] <;> (first | rfl | exact ⟨rfl, rfl⟩ | exact ⟨rfl, rfl, rfl⟩ | skip)
    · try simp only [go_sem, qA, qB, qC, qD, qE, qF, qG, qH, hbad, hg]
      repeat refine K ?_
      apply fin_one
      · exact Sub.refl _
      · simp [-List.drop_one, -gD, rdNum, hbad, hg] <;> (first | rfl | exact ⟨rfl, rfl⟩ | exact ⟨rfl, rfl, rfl⟩ | skip)
  · try simp only [go_sem, qA, qB, qC, qD, qE, qF, qG, qH, hbad]
    repeat refine K ?_
    apply fin_one
    · exact Sub.refl _
    · simp [-List.drop_one, -gD, rdNum, hbad] <;> (first | rfl | exact ⟨rfl, rfl⟩ | exact ⟨rfl, rfl, rfl⟩ | skip)

theorem l26Num_ok (b : List Int) (r : Rd) (hr : r.In b) (hb : b.length < 2 ^ 62) : CallOk Try.prog num 192 [.ptr 0 0 0] [(0, some (3, [rdS b r]), some (3, [rdS b (rdNum b r).2]))] (.int .i64 (rdNum b r).1) := by
  obtain ⟨h0, h1⟩ := hr
  refine enter (m := m192) (f := 192) (fn := Try.f71) Try.func71 (by kernel_rfl) rfl c192 rfl (by simp [Try.f71]) (by simp [bnds, bnd, nf_sl, nf_int, nf_bool, nf_str, ints_bnd]) (by first | (simp [preH, hb_nil, hb_cons, ints_bnd]; done) | exact hb_cons _ _ _ _ ((hb_nil _).2 trivial) (by decide) (by simp [ints_bnd, bndr, bnds, bnd])) ?_
  unfold m192
  simp only [go_sem, qA, qB, qC, qD, qE, qF, qG, qH, rdS]
  repeat refine K ?_
  refine DA [] (specGetInt_ok b r.a ⟨by omega, by omega⟩ hb) ?_
  try simp only [go_sem, qA, qB, qC, qD, qE, qF, qG, qH]
  repeat refine K ?_
  try simp only [go_sem, qA, qB, qC, qD, qE, qF, qG, qH]
  repeat refine K ?_
  cases hg : (getInt b r.a).2.2
  · try simp only [go_sem, qA, qB, qC, qD, qE, qF, qG, qH, hg]
    repeat refine K ?_
    apply fin_one
    · exact Sub.refl _
    · simp [-List.drop_one, -gD, rdNum, hg] <;> (first | rfl | exact ⟨rfl, rfl⟩ | exact ⟨rfl, rfl, rfl⟩ | skip)
  · cases hbad : r.bad
    · try simp only [go_sem, qA, qB, qC, qD, qE, qF, qG, qH, hbad, hg]
      repeat refine K ?_
      apply fin_one
      · exact Sub.refl _
      · simp [-List.drop_one, -gD, rdNum, hbad, hg] <;> (first | rfl | exact ⟨rfl, rfl⟩ | exact ⟨rfl, rfl, rfl⟩ | skip)
    · try simp only [go_sem, qA, qB, qC, qD, qE, qF, qG, qH, hbad, hg]
      repeat refine K ?_
      apply fin_one
      · exact Sub.refl _
      · simp [-List.drop_one, -gD, rdNum, hbad] <;> (first | rfl | exact ⟨rfl, rfl⟩ | exact ⟨rfl, rfl, rfl⟩ | skip)

/-- So many numbers. -/
def rdMany (b : List Int) : Nat → Rd → List Int × Rd
  | 0, r => ([], r)
  | n + 1, r => ((rdMany b n r).1 ++ [(rdNum b (rdMany b n r).2).1], (rdNum b (rdMany b n r).2).2)
theorem rdMany_in {b : List Int} {r : Rd} (h : r.In b) : ∀ n, (rdMany b n r).2.In b ∧ (rdMany b n r).1.length = n
  | 0 => ⟨h, rfl⟩
  | n + 1 => ⟨rdNum_in (rdMany_in h n).1, by simp [rdMany, (rdMany_in h n).2]⟩

theorem reader_numbers_ok (b : List Int) (r : Rd) (n : Nat) (hr : r.In b) (hb : b.length < 2 ^ 62) (hn : n < 2 ^ 40) : CallOk Try.prog num 196 [.ptr 0 0 0, .int .i64 n] [(0, some (3, [rdC b r]), some (3, [rdC b (rdMany b n r).2]))] (.sl .own 1 (ints (rdMany b n r).1)) := by
  refine enter (m := m196) (f := 196) (fn := Try.f77) Try.func77 (by kernel_rfl) rfl c196 rfl (by simp [Try.f77]) (by simp [bnds, bnd, nf_sl, nf_int, nf_bool, nf_str, ints_bnd]) (by first | (simp [preH, hb_nil, hb_cons, ints_bnd]; done) | exact hb_cons _ _ _ _ ((hb_nil _).2 trivial) (by decide) (by simp [ints_bnd, bndr, bnds, bnd])) ?_
  unfold m196
  simp only [go_sem, qA, qB, qC, qD, qE, qF, qG, qH]
  repeat refine K ?_
  refine loop_intro (ι := Nat) (fun i => .mk [(0, .ptr 0 0 0), (5, .ns 10 0 i), (8, .int .i64 n), (9, .int .i64 i)] [(0, 3, [rdC b (rdMany b i r).2]), (10, 1, ints (rdMany b i r).1)] 11) (fun i => i ≤ n) (fun i => n - i) 0 (by simp) ?_ ?_
  · refine Sub.shape [] id (by omega) ?_ ?_ ?_ ?_ <;> simp [ints_rep]
    all_goals simp [rdMany, ints_nil]
  · intro i hi
    obtain ⟨g1, g2⟩ := rdMany_in hr i
    simp only [go_sem, qA, qB, qC, qD, qE, qF, qG, qH]
    refine branch_intro (fun hc => ?_) (fun hc => ?_)
    · simp only [decide_eq_true_eq] at hc
      simp only [go_sem, qA, qB, qC, qD, qE, qF, qG, qH]
      repeat refine K ?_
      refine CA [(0, 0)] (reader_number_ok b (rdMany b i r).2 g1 hb) ?_
      try simp only [go_sem, qA, qB, qC, qD, qE, qF, qG, qH]
      repeat refine K ?_
      try simp only [go_sem, qA, qB, qC, qD, qE, qF, qG, qH, g2, wrap_succ (i := i) (by omega)]
      repeat refine K ?_
      refine back_intro (i + 1) ?_ (by omega) (by omega)
      simp only [rdMany]
      refine Sub.shape [] (fun n => if n = 10 then 12 else n) (by omega) ?_ ?_ ?_ ?_ <;> simp [ints_rep]
      all_goals exact .inl (ints_snoc _ _)
    · simp only [decide_eq_false_iff_not] at hc
      have hie : i = n := by omega
      subst hie
      simp only [go_sem, qA, qB, qC, qD, qE, qF, qG, qH]
      repeat refine K ?_
      apply fin_one
      · exact Sub.refl _
      · simp [-List.drop_one, -gD, g2] <;> (first | rfl | exact ⟨rfl, rfl⟩ | exact ⟨rfl, rfl, rfl⟩ | skip)

/-- The same, as long as all is well. -/
def rdSome (b : List Int) : Nat → Rd → List Int × Rd
  | 0, r => ([], r)
  | n + 1, r => if r.bad then ([], r) else ((rdNum b r).1 :: (rdSome b n (rdNum b r).2).1, (rdSome b n (rdNum b r).2).2)
theorem rdSome_in {b : List Int} : ∀ (n : Nat) {r : Rd}, r.In b → (rdSome b n r).2.In b ∧ (rdSome b n r).1.length ≤ n
  | 0, r, h => ⟨h, by simp [rdSome]⟩
  | n + 1, r, h => by
    simp only [rdSome]
    split
    · exact ⟨h, by simp⟩
    · have := rdSome_in n (rdNum_in h)
      exact ⟨this.1, by simp; omega⟩

theorem l26Nums_ok (b : List Int) (r : Rd) (n : Int) (hr : r.In b) (hb : b.length < 2 ^ 62) (hn : n < 2 ^ 40) : CallOk Try.prog num 193 [.ptr 0 0 0, .int .i64 n] [(0, some (3, [rdS b r]), some (3, [rdS b (rdSome b n.toNat r).2]))] (.sl .own 1 (ints (rdSome b n.toNat r).1)) := by
  refine enter (m := m193) (f := 193) (fn := Try.f72) Try.func72 (by kernel_rfl) rfl c193 rfl (by simp [Try.f72]) (by simp [bnds, bnd, nf_sl, nf_int, nf_bool, nf_str, ints_bnd]) (by first | (simp [preH, hb_nil, hb_cons, ints_bnd]; done) | exact hb_cons _ _ _ _ ((hb_nil _).2 trivial) (by decide) (by simp [ints_bnd, bndr, bnds, bnd])) ?_
  unfold m193
  simp only [go_sem, qA, qB, qC, qD, qE, qF, qG, qH]
  repeat refine K ?_
  refine loop_intro (ι := List Int × Rd) (fun s => .mk [(0, .ptr 0 0 0), (1, .int .i64 n), (5, .ns 10 0 s.1.length), (6, .int .i64 s.1.length)] [(0, 3, [rdS b s.2]), (10, 1, ints s.1)] 11) (fun s => s.2.In b ∧ s.1.length ≤ n.toNat ∧ s.1 ++ (rdSome b (n.toNat - s.1.length) s.2).1 = (rdSome b n.toNat r).1 ∧ (rdSome b (n.toNat - s.1.length) s.2).2 = (rdSome b n.toNat r).2) (fun s => n.toNat - s.1.length) ([], r) ⟨hr, by simp, rfl, rfl⟩ ?_ ?_
  · refine Sub.shape [] id (by omega) ?_ ?_ ?_ ?_ <;> simp [ints_rep]
    all_goals simp [ints_nil]
  · rintro ⟨acc, q⟩ ⟨g1, g2, g3, g4⟩
    simp only at g1 g2 g3 g4 ⊢
    by_cases hc : (acc.length : Int) < n
    · have e : n.toNat - acc.length = (n.toNat - (acc.length + 1)) + 1 := by omega
      rw [e] at g3 g4
      cases hbad : q.bad
      · simp only [rdSome, hbad, Bool.false_eq_true, if_false] at g3 g4
        simp only [go_sem, qA, qB, qC, qD, qE, qF, qG, qH, hc, rdS, hbad, Bool.not_false]
        repeat refine K ?_
        refine CA [(0, 0)] (l26Num_ok b q g1 hb) ?_
        try simp only [go_sem, qA, qB, qC, qD, qE, qF, qG, qH]
        repeat refine K ?_
        try simp only [go_sem, qA, qB, qC, qD, qE, qF, qG, qH, wrap_succ (i := acc.length) (by omega)]
        repeat refine K ?_
        refine back_intro (acc ++ [(rdNum b q).1], (rdNum b q).2) ?_ ⟨rdNum_in g1, by simp only [List.length_append, List.length_cons, List.length_nil]; omega, by simp only [List.length_append, List.length_cons, List.length_nil, List.append_assoc, List.cons_append, List.nil_append]; exact g3, by simp only [List.length_append, List.length_cons, List.length_nil]; exact g4⟩ (by simp only [List.length_append, List.length_cons, List.length_nil]; omega)
        refine Sub.shape [] (fun n => if n = 10 then 12 else n) (by omega) ?_ ?_ ?_ ?_ <;> simp [ints_rep]
        all_goals exact .inl (ints_snoc _ _)
      · simp only [rdSome, hbad, if_true, List.append_nil] at g3 g4
        rw [← g3, ← g4]
        simp only [go_sem, qA, qB, qC, qD, qE, qF, qG, qH, hc, rdS, hbad, Bool.not_true]
        repeat refine K ?_
        refine ⟨_, Sub.refl _, ?_⟩; simp [FinS, nilL, nilV, oneOr, -List.drop_one]
    · have e : n.toNat - acc.length = 0 := by omega
      rw [e] at g3 g4
      simp only [rdSome, List.append_nil] at g3 g4
      rw [← g3, ← g4]
      simp only [go_sem, qA, qB, qC, qD, qE, qF, qG, qH, hc]
      repeat refine K ?_
      refine ⟨_, Sub.refl _, ?_⟩; simp [FinS, nilL, nilV, oneOr, -List.drop_one]

def rdCount (b : List Int) (r : Rd) (most : Int) : Int × Rd := if within (rdNum b r).1 0 most then rdNum b r else (0, ⟨(rdNum b r).2.a, true⟩)
theorem rdCount_in {b : List Int} {r : Rd} {most : Int} (h : r.In b) : (rdCount b r most).2.In b := by
  unfold rdCount
  split
  · exact rdNum_in h
  · exact rdNum_in (r := r) h
theorem rdCount_le {b : List Int} {r : Rd} {most : Int} (h : 0 ≤ most) : 0 ≤ (rdCount b r most).1 ∧ (rdCount b r most).1 ≤ most := by
  unfold rdCount
  split
  · rename_i hw
    rwa [within_iff] at hw
  · exact ⟨Int.le_refl _, h⟩
theorem reader_count_ok (b : List Int) (r : Rd) (most : Int) (hr : r.In b) (hb : b.length < 2 ^ 62) : CallOk Try.prog num 197 [.ptr 0 0 0, .int .i64 most] [(0, some (3, [rdC b r]), some (3, [rdC b (rdCount b r most).2]))] (.int .i64 (rdCount b r most).1) := by
  refine enter (m := m197) (f := 197) (fn := Try.f78) Try.func78 (by kernel_rfl) rfl c197 rfl (by simp [Try.f78]) (by simp [bnds, bnd, nf_sl, nf_int, nf_bool, nf_str, ints_bnd]) (by first | (simp [preH, hb_nil, hb_cons, ints_bnd]; done) | exact hb_cons _ _ _ _ ((hb_nil _).2 trivial) (by decide) (by simp [ints_bnd, bndr, bnds, bnd])) ?_
  unfold m197
  simp only [go_sem, qA, qB, qC, qD, qE, qF, qG, qH]
  repeat refine K ?_
  refine CA [(0, 0)] (reader_number_ok b r hr hb) ?_
  try simp only [go_sem, qA, qB, qC, qD, qE, qF, qG, qH]
  repeat refine K ?_
  try simp only [go_sem, qA, qB, qC, qD, qE, qF, qG, qH]
  repeat refine K ?_
  refine CA [] (within_ok (rdNum b r).1 0 most) ?_
  try simp only [go_sem, qA, qB, qC, qD, qE, qF, qG, qH]
  repeat refine K ?_
  cases hw : within (rdNum b r).1 0 most
  · try simp only [go_sem, qA, qB, qC, qD, qE, qF, qG, qH, hw, rdC]
    repeat refine K ?_
    apply fin_one
    · exact Sub.refl _
    · simp [-List.drop_one, -gD, rdCount, hw] <;> (first | rfl | exact ⟨rfl, rfl⟩ | exact ⟨rfl, rfl, rfl⟩ | skip)
  · try simp only [go_sem, qA, qB, qC, qD, qE, qF, qG, qH, hw]
    repeat refine K ?_
    apply fin_one
    · exact Sub.refl _
    · simp [-List.drop_one, -gD, rdCount, hw] <;> (first | rfl | exact ⟨rfl, rfl⟩ | exact ⟨rfl, rfl, rfl⟩ | skip)

def rdSeq {α : Type} (f : Nat → Rd → α × Rd) : Nat → Rd → List α × Rd
  | 0, r => ([], r)
  | n + 1, r => ((rdSeq f n r).1 ++ [(f n (rdSeq f n r).2).1], (f n (rdSeq f n r).2).2)
@[simp] theorem rdSeq_length {α : Type} (f : Nat → Rd → α × Rd) (r : Rd) : ∀ n, (rdSeq f n r).1.length = n
  | 0 => rfl
  | n + 1 => by simp [rdSeq, rdSeq_length f r n]
theorem rdSeq_in {α : Type} {b : List Int} {f : Nat → Rd → α × Rd} (hf : ∀ i r, r.In b → (f i r).2.In b) {r : Rd} (h : r.In b) : ∀ n, (rdSeq f n r).2.In b
  | 0 => h
  | n + 1 => hf n _ (rdSeq_in hf h n)
theorem rdSeq_all {α : Type} {b : List Int} {f : Nat → Rd → α × Rd} {Q : α → Prop} (hf : ∀ i r, r.In b → (f i r).2.In b) (hq : ∀ i r, r.In b → Q (f i r).1) {r : Rd} (h : r.In b) : ∀ n, ∀ x ∈ (rdSeq f n r).1, Q x
  | 0, x, hx => by simp [rdSeq] at hx
  | n + 1, x, hx => by
    simp only [rdSeq, List.mem_append, List.mem_singleton] at hx
    rcases hx with hx | rfl
    · exact rdSeq_all hf hq h n x hx
    · exact hq n _ (rdSeq_in hf h n)
def rdThread (b : List Int) (r : Rd) : Thread × Rd := (⟨(rdNum b r).1, (rdMany b 4 (rdNum b (rdNum b r).2).2).1, (rdNum b (rdNum b r).2).1⟩, (rdMany b 4 (rdNum b (rdNum b r).2).2).2)
def rdChan (b : List Int) (cap : Int) (r : Rd) : Chan × Rd :=
  (⟨cap, (rdMany b (rdCount b r 4).1.toNat (rdCount b r 4).2).1, decide ((rdCount b (rdMany b (rdCount b r 4).1.toNat (rdCount b r 4).2).2 1).1 = 1)⟩, (rdCount b (rdMany b (rdCount b r 4).1.toNat (rdCount b r 4).2).2 1).2)
def rdNote (b : List Int) (r : Rd) : Note × Rd := (⟨(rdNum b r).1, (rdNum b (rdNum b r).2).1⟩, (rdNum b (rdNum b r).2).2)
theorem rdThread_in {b : List Int} {r : Rd} (h : r.In b) : (rdThread b r).2.In b := (rdMany_in (rdNum_in (rdNum_in h)) 4).1
theorem rdChan_in {b : List Int} {cap : Int} {r : Rd} (h : r.In b) : (rdChan b cap r).2.In b := rdCount_in (rdMany_in (rdCount_in h) _).1
theorem rdNote_in {b : List Int} {r : Rd} (h : r.In b) : (rdNote b r).2.In b := rdNum_in (rdNum_in h)
def parseT (p : Prog) (b : List Int) : List Thread × Rd := rdSeq (fun _ => rdThread b) p.bods.length ⟨0, false⟩
def parseC (p : Prog) (b : List Int) : List Chan × Rd := rdSeq (fun i => rdChan b (p.caps.getD i 0)) p.caps.length (parseT p b).2
def parseN (p : Prog) (b : List Int) : List Note × Rd := rdSeq (fun _ => rdNote b) (rdCount b (parseC p b).2 4000).1.toNat (rdCount b (parseC p b).2 4000).2
def implParse (p : Prog) (b : List Int) : Source × Rd := (⟨(parseT p b).1, (parseC p b).1, (parseN p b).1⟩, (parseN p b).2)
def implOf (p : Prog) (b : List Int) : Source × Bool :=
  if progOk p = true ∧ (implParse p b).2.bad = false ∧ sourceOk p (implParse p b).1 = true ∧ srcBytes (implParse p b).1 = b then ((implParse p b).1, true) else (⟨[], [], []⟩, false)

theorem bytesOf_bys : ∀ (l : List Int), bytesOf (bys l) = some (l.map fun n => UInt8.ofNat n.toNat)
  | [] => rfl
  | a :: l => by
    have := bytesOf_bys l
    simp only [bys, List.map_cons, bytesOf] at this ⊢
    rw [this]
    rfl
theorem toB_inj : ∀ {l m : List Int}, (∀ x ∈ l, isByte x) → (∀ x ∈ m, isByte x) → l.map (fun n => UInt8.ofNat n.toNat) = m.map (fun n => UInt8.ofNat n.toNat) → l = m
  | [], [], _, _, _ => rfl
  | [], b :: m, _, _, h => by simp at h
  | a :: l, [], _, _, h => by simp at h
  | a :: l, b :: m, h1, h2, h => by
    simp only [List.map_cons, List.cons.injEq] at h
    have ha := h1 a (by simp)
    have hb := h2 b (by simp)
    have e : a = b := by
      have := congrArg UInt8.toNat h.1
      rw [UInt8.toNat_ofNat', UInt8.toNat_ofNat'] at this
      unfold isByte at ha hb
      omega
    rw [e, toB_inj (fun x hx => h1 x (by simp [hx])) (fun x hx => h2 x (by simp [hx])) h.2]
def strOf (l : List Int) : ByteArray := ⟨(l.map fun n => UInt8.ofNat n.toNat).toArray⟩
theorem strOf_eq {l m : List Int} (h1 : ∀ x ∈ l, isByte x) (h2 : ∀ x ∈ m, isByte x) : decide (strOf l = strOf m) = decide (l = m) := by
  rw [Bool.eq_iff_iff]
  simp only [decide_eq_true_eq]
  refine ⟨fun h => toB_inj h1 h2 ?_, fun h => by rw [h]⟩
  unfold strOf at h
  simpa using h
theorem cvs_bys (l : List Int) : (Option.map (fun (x : List UInt8) => (⟨x.toArray⟩ : ByteArray)) (bytesOf (bys l))) = some (strOf l) := by rw [bytesOf_bys]; rfl

theorem bytesEqual_ok (xs ys : List Int) (h1 : ∀ x ∈ xs, isByte x) (h2 : ∀ x ∈ ys, isByte x) : CallOk Try.prog num 199 [.sl .bw 1 (bys xs), .sl .bw 1 (bys ys)] [] (.bool (decide (xs = ys))) := by
  have he := strOf_eq h1 h2
  unfold strOf at he
  refine enter (m := m199) (f := 199) (fn := Try.f80) Try.func80 (by kernel_rfl) rfl c199 rfl (by simp [Try.f80]) (by simp [bnds, bnd, nf_sl, nf_int, nf_bool, nf_str, ints_bnd]) (fun _ _ h => by simp [preH, look] at h) ?_
  unfold m199
  simp only [go_sem, qA, qB, qC, qD, qE, qF, qG, qH, bytesOf_bys, he]
  repeat refine K ?_
  refine ⟨_, Sub.refl _, ?_⟩; simp [FinS, nilL, nilV, oneOr, -List.drop_one]


end Go.Sep
