/- Contracts of functions. -/
import Derived.Test.YtoijhndfkfliiaaConD
namespace Go.Sep
open Go.Proofs
set_option linter.unusedSimpArgs false
set_option linter.unusedVariables false
set_option maxRecDepth 100000
def m216 : MFn := ⟨34, [.t 4], .seq (xr [xo 4 (.mv (.c (.nil)))]) (.seq (xr [xv 7 0, xv 8 1, xo 9 (.iad 5 (.t 7) (.t 8)), xo 10 (.load 5 true (.t 9)), xo 5 (.alloc [xz, xz, xz, xz, xz]), ⟨none, .store 5 (.t 5) (.t 10), none⟩]) (.seq (.seq (xr [xo 11 (.fad 0 (.t 5)), xo 12 (.load 1 false (.t 11))]) (.blk 0 (.seq (xr [xo 14 (.bin .eql (.t 12) (xi 13)), xv 13 14]) (.cond 13 (.seq (xr [xo 4 (.mv (.c (.nil)))]) (.ret)) (.seq (xr [xo 16 (.bin .eql (.t 12) (xi 11)), xv 15 16]) (.cond 15 (.seq (xr [xo 17 (.fad 4 (.t 5)), xo 18 (.load 1 false (.t 17)), xo 19 (.mkSl [xz] 1 [(0, .t 18)]), xv 4 19]) (.ret)) (.seq (xr [xo 21 (.bin .eql (.t 12) (xi 12)), xv 20 21]) (.cond 20 (.seq (xr [xv 22 1, xo 23 (.bin .add (.t 22) (xi 1)), xo 24 (.fad 4 (.t 5)), xo 25 (.load 1 false (.t 24)), xo 26 (.mkSl [xz] 2 [(0, .t 23), (1, .t 25)]), xv 6 26]) (.seq (xr [xv 27 6, xo 28 (.call 219 [true] [.t 27])]) (.seq (xr [xv 29 6, xo 30 (.call 220 [true] [.t 29]), xv 4 30]) (.ret)))) (.skip))))))))) (.seq (xr [xv 31 1, xo 32 (.bin .add (.t 31) (xi 1)), xo 33 (.mkSl [xz] 1 [(0, .t 32)]), xv 4 33]) (.ret))))⟩
theorem c216 : chkC Try.prog num Try.f118.ntmps m216.body ((Try.f118.body).getD .skip) = true := by kernel_rfl
def m219 : MFn := ⟨11, [], .seq (xr [xv 3 0, xo 4 (.len (.t 3)), xv 2 4]) (xr [xv 5 0, xv 6 2, xv 7 2, xo 8 (.cvi .u64 (.t 7)), xo 9 (.call 272 [false] [.t 8]), xo 10 (.call 273 [true, false, false, false] [.t 5, xi 0, .t 6, .t 9])])⟩
theorem c219 : chkC Try.prog num Try.f121.ntmps m219.body ((Try.f121.body).getD .skip) = true := by kernel_rfl
def m220 : MFn := ⟨61, [.t 2], .seq (xr [xo 2 (.mv (.c (.nil)))]) (.seq (.seq (xr [xv 6 0, xo 7 (.len (.t 6)), xo 8 (.bin .lss (.t 7) (xi 2))]) (.cond 8 (.seq (xr [xv 9 0, xv 2 9]) (.ret)) (.skip))) (.seq (.seq (xr [xo 3 (.mv (xi 1))]) (.blk 0 (.loop (.seq (.seq (xr [xv 10 3, xv 11 0, xo 12 (.len (.t 11)), xo 13 (.bin .lss (.t 10) (.t 12))]) (.cond 13 (.skip) (.exit 0))) (.seq (.blk 1 (.seq (.dreg (.take 0 (xv 16 0) (.take 1 (xv 17 3) (.take 2 (xo 18 (.iad 1 (.t 16) (.t 17))) (.take 3 (xo 19 (.load 1 false (.t 18))) (.take 4 (xv 20 0) (.only 5 [] (xv 21 3) (.only 6 [] (xo 22 (.bin .sub (.t 21) (xi 1))) (.only 7 [4] (xo 23 (.iad 1 (.t 20) (.t 22))) (.only 8 [] (xo 24 (.load 1 false (.t 23))) (.only 9 [3] (xo 25 (.bin .eql (.t 19) (.t 24))) (.done)))))))))))) (.cond 25 (.seq (xr [xv 26 0, xv 27 3, xo 28 (.cut 1 (.t 26) (some (.t 27)) none), xv 4 28]) (.seq (.seq (xr [xo 5 (.mv (xi 1))]) (.blk 2 (.loop (.seq (.seq (xr [xv 29 5, xv 30 4, xo 31 (.len (.t 30)), xo 32 (.bin .lss (.t 29) (.t 31))]) (.cond 32 (.skip) (.exit 2))) (.seq (.blk 3 (.seq (.dreg (.take 0 (xv 35 4) (.take 1 (xv 36 5) (.take 2 (xo 37 (.iad 1 (.t 35) (.t 36))) (.take 3 (xo 38 (.load 1 false (.t 37))) (.take 4 (xv 39 4) (.only 5 [] (xv 40 5) (.only 6 [] (xo 41 (.bin .sub (.t 40) (xi 1))) (.only 7 [4] (xo 42 (.iad 1 (.t 39) (.t 41))) (.only 8 [] (xo 43 (.load 1 false (.t 42))) (.only 9 [3] (xo 44 (.bin .neq (.t 38) (.t 43))) (.done)))))))))))) (.cond 44 (.seq (xr [xv 45 0, xv 46 3, xv 47 4, xv 48 5, xo 49 (.iad 1 (.t 47) (.t 48)), xo 50 (.load 1 false (.t 49)), xo 51 (.iad 1 (.t 45) (.t 46)), ⟨none, .store 1 (.t 51) (.t 50), none⟩]) (xr [xv 52 3, xo 53 (.bin .add (.t 52) (xi 1)), xv 3 53])) (.skip)))) (xr [xv 33 5, xo 34 (.bin .add (.t 33) (xi 1)), xv 5 34])))))) (.seq (xr [xv 54 0, xv 55 3, xo 56 (.cut 1 (.t 54) (some (.t 55)) none), ⟨none, .clr [xz] (.t 56), none⟩]) (.seq (xr [xv 57 0, xv 58 3, xo 59 (.cut 1 (.t 57) none (some (.t 58))), xv 2 59]) (.ret))))) (.skip)))) (xr [xv 14 3, xo 15 (.bin .add (.t 14) (xi 1)), xv 3 15])))))) (.seq (xr [xv 60 0, xv 2 60]) (.ret))))⟩
theorem c220 : chkC Try.prog num Try.f122.ntmps m220.body ((Try.f122.body).getD .skip) = true := by kernel_rfl
def m272 : MFn := ⟨8, [.t 2], .seq (xr [xo 2 (.mv (xi 0))]) (.seq (.skip) (.seq (xr [xv 6 0, xo 7 (.call 340 [false] [.t 6]), xv 2 7]) (.ret)))⟩
theorem c272 : chkC Try.prog num Try.f210.ntmps m272.body ((Try.f210.body).getD .skip) = true := by kernel_rfl
def m273 : MFn := ⟨134, [], .seq (xr [xo 8 (.mv (.c (.bool true)))]) (.seq (xr [xo 9 (.mv (.c (.bool true)))]) (.blk 0 (.loop (.blk 1 (.seq (xr [xv 19 2, xv 20 1, xo 21 (.bin .sub (.t 19) (.t 20)), xv 10 21]) (.seq (.seq (xr [xv 22 10, xo 23 (.bin .leq (.t 22) (xi 12))]) (.cond 23 (.seq (xr [xv 24 0, xv 25 1, xv 26 2, xo 27 (.call 312 [true, false, false] [.t 24, .t 25, .t 26])]) (.ret)) (.skip))) (.seq (.seq (xr [xv 28 3, xo 29 (.bin .eql (.t 28) (xi 0))]) (.cond 29 (.seq (xr [xv 30 0, xv 31 1, xv 32 2, xo 33 (.call 313 [false, false, false] [.t 30, .t 31, .t 32])]) (.ret)) (.skip))) (.seq (.seq (xr [xv 34 8, xo 35 (.un .«not» (.t 34))]) (.cond 35 (.seq (xr [xv 36 0, xv 37 1, xv 38 2, xo 39 (.call 314 [false, false, false] [.t 36, .t 37, .t 38])]) (xr [xv 40 3, xo 41 (.bin .sub (.t 40) (xi 1)), xv 3 41])) (.skip))) (.seq (xr [xv 43 0, xv 44 1, xv 45 2, xo 46 (.call 315 [false, false, false] [.t 43, .t 44, .t 45]), xv 42 46, xo 47 (.ext (.t 42) 0), xo 48 (.ext (.t 42) 1), xv 11 47, xv 12 48]) (.seq (.seq (xr [xv 49 12, xo 50 (.bin .eql (.t 49) (xi 2))]) (.cond 50 (.seq (xr [xv 51 0, xv 52 1, xv 53 2, xo 54 (.call 316 [false, false, false] [.t 51, .t 52, .t 53])]) (.seq (xr [xv 55 2, xo 56 (.bin .sub (.t 55) (xi 1)), xv 57 11, xv 58 1, xo 59 (.bin .sub (.t 57) (.t 58)), xo 60 (.bin .sub (.t 56) (.t 59)), xv 11 60]) (xr [xo 12 (.mv (xi 1))]))) (.skip))) (.seq (.seq (xr [xv 61 8, xv 62 61, xg 63 (.mv (.t 9)) 62 true, xo 64 (.pick (.t 62) (.t 63) (.c (.bool false))), xv 65 64, xg 66 (.mv (.t 12)) 65 true, xg 67 (.bin .eql (.t 66) (xi 1)) 65 true, xo 68 (.pick (.t 65) (.t 67) (.c (.bool false)))]) (.cond 68 (.seq (xr [xv 69 0, xv 70 1, xv 71 2, xo 72 (.call 317 [false, false, false] [.t 69, .t 70, .t 71])]) (.cond 72 (.ret) (.skip))) (.skip))) (.seq (.seq (.dreg (.only 0 [] (xv 73 1) (.only 1 [] (xo 74 (.bin .gtr (.t 73) (xi 0))) (.only 2 [] (xv 75 74) (.take 3 (xg 76 (.mv (.t 0)) 75 true) (.take 4 (xg 77 (.mv (.t 1)) 75 true) (.take 5 (xg 78 (.bin .sub (.t 77) (xi 1)) 75 true) (.take 6 (xg 79 (.iad 1 (.t 76) (.t 78)) 75 true) (.take 7 (xg 80 (.load 1 false (.t 79)) 75 true) (.take 8 (xg 81 (.mv (.t 0)) 75 true) (.only 9 [] (xg 82 (.mv (.t 11)) 75 true) (.only 10 [8] (xg 83 (.iad 1 (.t 81) (.t 82)) 75 true) (.only 11 [] (xg 84 (.load 1 false (.t 83)) 75 true) (.only 12 [7] (xg 85 (.call 318 [false, false] [.t 80, .t 84]) 75 true) (.only 13 [] (xg 86 (.un .«not» (.t 85)) 75 true) (.only 14 [] (xo 87 (.pick (.t 75) (.t 86) (.c (.bool false)))) (.done))))))))))))))))) (.cond 87 (.seq (xr [xv 88 0, xv 89 1, xv 90 2, xv 91 11, xo 92 (.call 319 [false, false, false, false] [.t 88, .t 89, .t 90, .t 91]), xv 13 92]) (.seq (xr [xv 93 13, xv 1 93]) (.exit 1))) (.skip))) (.seq (xr [xv 95 0, xv 96 1, xv 97 2, xv 98 11, xo 99 (.call 320 [false, false, false, false] [.t 95, .t 96, .t 97, .t 98]), xv 94 99, xo 100 (.ext (.t 94) 0), xo 101 (.ext (.t 94) 1), xv 14 100, xv 15 101]) (.seq (xr [xv 102 15, xv 9 102]) (.seq (xr [xv 103 14, xv 104 1, xo 105 (.bin .sub (.t 103) (.t 104)), xv 106 2, xv 107 14, xo 108 (.bin .sub (.t 106) (.t 107)), xv 16 105, xv 17 108]) (.seq (xr [xv 109 10, xo 110 (.bin .quo (.t 109) (xi 8)), xv 18 110]) (.seq (xr [xv 111 16, xv 112 17, xo 113 (.bin .lss (.t 111) (.t 112))]) (.cond 113 (.seq (xr [xv 114 16, xv 115 18, xo 116 (.bin .geq (.t 114) (.t 115)), xv 8 116]) (.seq (xr [xv 117 0, xv 118 1, xv 119 14, xv 120 3, xo 121 (.call 273 [true, false, false, false] [.t 117, .t 118, .t 119, .t 120])]) (xr [xv 122 14, xo 123 (.bin .add (.t 122) (xi 1)), xv 1 123]))) (.seq (xr [xv 124 17, xv 125 18, xo 126 (.bin .geq (.t 124) (.t 125)), xv 8 126]) (.seq (xr [xv 127 0, xv 128 14, xo 129 (.bin .add (.t 128) (xi 1)), xv 130 2, xv 131 3, xo 132 (.call 273 [true, false, false, false] [.t 127, .t 129, .t 130, .t 131])]) (xr [xv 133 14, xv 2 133])))))))))))))))))))))⟩
theorem c273 : chkC Try.prog num Try.f209.ntmps m273.body ((Try.f209.body).getD .skip) = true := by kernel_rfl
def m312 : MFn := ⟨49, [], .seq (xr [xv 8 1, xo 9 (.bin .add (.t 8) (xi 1)), xv 6 9]) (.blk 0 (.loop (.seq (.seq (xr [xv 10 6, xv 11 2, xo 12 (.bin .lss (.t 10) (.t 11))]) (.cond 12 (.skip) (.exit 0))) (.seq (.blk 1 (.seq (xr [xv 15 6, xv 7 15]) (.blk 2 (.loop (.seq (.seq (.dreg (.take 0 (xv 16 7) (.only 1 [] (xv 17 1) (.only 2 [0] (xo 18 (.bin .gtr (.t 16) (.t 17))) (.only 3 [] (xv 19 18) (.take 4 (xg 20 (.mv (.t 0)) 19 true) (.take 5 (xg 21 (.mv (.t 7)) 19 true) (.take 6 (xg 22 (.iad 1 (.t 20) (.t 21)) 19 true) (.take 7 (xg 23 (.load 1 false (.t 22)) 19 true) (.take 8 (xg 24 (.mv (.t 0)) 19 true) (.only 9 [] (xg 25 (.mv (.t 7)) 19 true) (.only 10 [] (xg 26 (.bin .sub (.t 25) (xi 1)) 19 true) (.only 11 [8] (xg 27 (.iad 1 (.t 24) (.t 26)) 19 true) (.only 12 [] (xg 28 (.load 1 false (.t 27)) 19 true) (.only 13 [7] (xg 29 (.call 318 [false, false] [.t 23, .t 28]) 19 true) (.only 14 [] (xo 30 (.pick (.t 19) (.t 29) (.c (.bool false)))) (.done))))))))))))))))) (.cond 30 (.skip) (.exit 2))) (.seq (.blk 3 (.dreg (.take 0 (xv 33 0) (.take 1 (xv 34 7) (.take 2 (xv 35 0) (.take 3 (xv 36 7) (.take 4 (xo 37 (.bin .sub (.t 36) (xi 1))) (.take 5 (xv 38 0) (.take 6 (xv 39 7) (.take 7 (xo 40 (.bin .sub (.t 39) (xi 1))) (.take 8 (xo 41 (.iad 1 (.t 38) (.t 40))) (.take 9 (xo 42 (.load 1 false (.t 41))) (.take 10 (xv 43 0) (.only 11 [] (xv 44 7) (.only 12 [10] (xo 45 (.iad 1 (.t 43) (.t 44))) (.only 13 [] (xo 46 (.load 1 false (.t 45))) (.only 14 [0, 1, 5, 6, 7, 8, 9] (xo 47 (.iad 1 (.t 33) (.t 34))) (.only 15 [0, 1, 5, 6, 7, 8, 9] ⟨none, .store 1 (.t 47) (.t 42), none⟩ (.only 16 [0, 1, 2, 3, 4, 5, 6, 7, 8, 9, 10] (xo 48 (.iad 1 (.t 35) (.t 37))) (.only 17 [0, 1, 2, 3, 4, 5, 6, 7, 8, 9, 10] ⟨none, .store 1 (.t 48) (.t 46), none⟩ (.done))))))))))))))))))))) (xr [xv 31 7, xo 32 (.bin .sub (.t 31) (xi 1)), xv 7 32]))))))) (xr [xv 13 6, xo 14 (.bin .add (.t 13) (xi 1)), xv 6 14])))))⟩
theorem c312 : chkC Try.prog num Try.f267.ntmps m312.body ((Try.f267.body).getD .skip) = true := by kernel_rfl
def m318 : MFn := ⟨17, [.t 4], .seq (xr [xo 4 (.mv (.c (.bool false)))]) (.seq (xr [xv 5 0, xo 6 (.call 338 [false] [.t 5]), xv 7 6, xg 8 (.mv (.t 1)) 7 true, xg 9 (.call 338 [false] [.t 8]) 7 true, xg 10 (.un .«not» (.t 9)) 7 true, xo 11 (.pick (.t 7) (.t 10) (.c (.bool false))), xv 12 11, xg 13 (.mv (.t 0)) 12 false, xg 14 (.mv (.t 1)) 12 false, xg 15 (.bin .lss (.t 13) (.t 14)) 12 false, xo 16 (.pick (.t 12) (.c (.bool true)) (.t 15)), xv 4 16]) (.ret))⟩
theorem c318 : chkC Try.prog num Try.f273.ntmps m318.body ((Try.f273.body).getD .skip) = true := by kernel_rfl
def m338 : MFn := ⟨6, [.t 2], .seq (xr [xo 2 (.mv (.c (.bool false)))]) (.seq (xr [xv 3 0, xv 4 0, xo 5 (.bin .neq (.t 3) (.t 4)), xv 2 5]) (.ret))⟩
theorem c338 : chkC Try.prog num Try.f300.ntmps m338.body ((Try.f300.body).getD .skip) = true := by kernel_rfl
def m340 : MFn := ⟨25, [.t 2], .seq (xr [xo 2 (.mv (xi 0))]) (.seq (.seq (xr [xv 3 0, xo 4 (.bin .geq (.t 3) (.c (.int .u64 4294967296)))]) (.cond 4 (.seq (xr [xv 5 0, xo 6 (.bin .shr (.t 5) (.c (.int .u64 32))), xv 0 6]) (xr [xo 2 (.mv (xi 32))])) (.skip))) (.seq (.seq (xr [xv 7 0, xo 8 (.bin .geq (.t 7) (.c (.int .u64 65536)))]) (.cond 8 (.seq (xr [xv 9 0, xo 10 (.bin .shr (.t 9) (.c (.int .u64 16))), xv 0 10]) (xr [xv 11 2, xo 12 (.bin .add (.t 11) (xi 16)), xv 2 12])) (.skip))) (.seq (.seq (xr [xv 13 0, xo 14 (.bin .geq (.t 13) (.c (.int .u64 256)))]) (.cond 14 (.seq (xr [xv 15 0, xo 16 (.bin .shr (.t 15) (.c (.int .u64 8))), xv 0 16]) (xr [xv 17 2, xo 18 (.bin .add (.t 17) (xi 8)), xv 2 18])) (.skip))) (.seq (xr [xv 19 2, xv 20 0, xo 21 (.cvi .u8 (.t 20)), ⟨(some 22), .idx (.c (.str ⟨#[0, 1, 2, 2, 3, 3, 3, 3, 4, 4, 4, 4, 4, 4, 4, 4, 5, 5, 5, 5, 5, 5, 5, 5, 5, 5, 5, 5, 5, 5, 5, 5, 6, 6, 6, 6, 6, 6, 6, 6, 6, 6, 6, 6, 6, 6, 6, 6, 6, 6, 6, 6, 6, 6, 6, 6, 6, 6, 6, 6, 6, 6, 6, 6, 7, 7, 7, 7, 7, 7, 7, 7, 7, 7, 7, 7, 7, 7, 7, 7, 7, 7, 7, 7, 7, 7, 7, 7, 7, 7, 7, 7, 7, 7, 7, 7, 7, 7, 7, 7, 7, 7, 7, 7, 7, 7, 7, 7, 7, 7, 7, 7, 7, 7, 7, 7, 7, 7, 7, 7, 7, 7, 7, 7, 7, 7, 7, 7, 8, 8, 8, 8, 8, 8, 8, 8, 8, 8, 8, 8, 8, 8, 8, 8, 8, 8, 8, 8, 8, 8, 8, 8, 8, 8, 8, 8, 8, 8, 8, 8, 8, 8, 8, 8, 8, 8, 8, 8, 8, 8, 8, 8, 8, 8, 8, 8, 8, 8, 8, 8, 8, 8, 8, 8, 8, 8, 8, 8, 8, 8, 8, 8, 8, 8, 8, 8, 8, 8, 8, 8, 8, 8, 8, 8, 8, 8, 8, 8, 8, 8, 8, 8, 8, 8, 8, 8, 8, 8, 8, 8, 8, 8, 8, 8, 8, 8, 8, 8, 8, 8, 8, 8, 8, 8, 8, 8, 8, 8, 8, 8, 8, 8, 8, 8, 8, 8, 8, 8, 8, 8, 8, 8, 8, 8, 8, 8]⟩)) (.t 21), none⟩, xo 23 (.cvi .i64 (.t 22)), xo 24 (.bin .add (.t 19) (.t 23)), xv 2 24]) (.ret)))))⟩
theorem c340 : chkC Try.prog num Try.f277.ntmps m340.body ((Try.f277.body).getD .skip) = true := by kernel_rfl
open Nat renaming reduceAdd → qA, reduceMul → qB, reduceEqDiff → qC, reduceBEq → qD
open Int renaming reduceToNat → qE, reduceEq → qF, reduceLT → qG, reduceLE → qH
open List renaming getD_eq_getElem?_getD → gD

attribute [local go_sem] e_nil
theorem isNaN_ok (x : Int) : CallOk Try.prog num 338 [.int .i64 x] [] (.bool false) := by
  refine enter (m := m338) (f := 338) (fn := Try.f300) Try.func300 (by kernel_rfl) rfl c338 rfl (by simp [Try.f300]) (by simp [bnds, bnd, nf_sl, nf_int, nf_bool, nf_str, ints_bnd]) (fun _ _ h => by simp [preH, look] at h) ?_
  unfold m338
  simp only [go_sem, qA, qB, qC, qD, qE, qF, qG, qH]
  repeat refine K ?_
  refine ⟨_, Sub.refl _, FinS_one ?_⟩; simp [-List.drop_one]
theorem less_ok (x y : Int) : CallOk Try.prog num 318 [.int .i64 x, .int .i64 y] [] (.bool (decide (x < y))) := by
  refine enter (m := m318) (f := 318) (fn := Try.f273) Try.func273 (by kernel_rfl) rfl c318 rfl (by simp [Try.f273]) (by simp [bnds, bnd, nf_sl, nf_int, nf_bool, nf_str, ints_bnd]) (fun _ _ h => by simp [preH, look] at h) ?_
  unfold m318
  simp only [go_sem, qA, qB, qC, qD, qE, qF, qG, qH]
  repeat refine K ?_
  refine CA [] (isNaN_ok x) ?_
  try simp only [go_sem, qA, qB, qC, qD, qE, qF, qG, qH]
  repeat refine K ?_
  try simp only [go_sem, qA, qB, qC, qD, qE, qF, qG, qH]
  repeat refine K ?_
  by_cases h : x < y
  · try simp only [go_sem, qA, qB, qC, qD, qE, qF, qG, qH, h]
    repeat refine K ?_
    refine ⟨_, Sub.refl _, FinS_one ?_⟩; simp [-List.drop_one]
    all_goals (try simp [h])
  · try simp only [go_sem, qA, qB, qC, qD, qE, qF, qG, qH, h]
    repeat refine K ?_
    refine ⟨_, Sub.refl _, FinS_one ?_⟩; simp [-List.drop_one]
    all_goals (try simp [h])
def sort2 (a b : Int) : List Int := if b < a then [b, a] else [a, b]
set_option maxHeartbeats 4000000 in
theorem insSort2_ok (a b : Int) : CallOk Try.prog num 312 [.ns 0 0 2, .int .i64 0, .int .i64 2] [(0, some (1, ints [a, b]), some (1, ints (sort2 a b)))] (.tup []) := by
  refine enter (m := m312) (f := 312) (fn := Try.f267) Try.func267 (by kernel_rfl) rfl c312 rfl (by simp [Try.f267]) (by simp [bnds, bnd, nf_sl, nf_int, nf_bool, nf_str, ints_bnd]) (by refine hb_cons _ _ _ _ ((hb_nil _).2 trivial) (by decide) ?_ <;> simp [ints_bnd]) ?_
  unfold m312
  have w0 : IntKind.i64.wrap 0 = 0 := by decide
  have w1 : IntKind.i64.wrap 1 = 1 := by decide
  have w2 : IntKind.i64.wrap 2 = 2 := by decide
  have w3 : IntKind.i64.wrap (1 - 1) = 0 := by decide
  have w4 : IntKind.i64.wrap (1 + 1) = 2 := by decide
  have w5 : IntKind.i64.wrap (0 + 1) = 1 := by decide
  have g0 : (ints [a, b]).getD 0 [] = [.int .i64 a] := rfl
  have g1 : (ints [a, b]).getD 1 [] = [.int .i64 b] := rfl
  simp only [go_sem, qA, qB, qC, qD, qE, qF, qG, qH, w1]
  repeat refine K ?_
  refine loop_intro (ι := Bool) (fun q => .mk [(0, .ns 0 0 2), (1, .int .i64 0), (2, .int .i64 2), (6, .int .i64 (if q then 2 else 1))] [(0, 1, ints (if q then sort2 a b else [a, b]))] 10) (fun _ => True) (fun q => if q then 0 else 1) false trivial ?_ ?_
  · refine Sub.shape [] id (by omega) ?_ ?_ ?_ ?_ <;> simp [ints_rep]
    all_goals (exact w5)
  · rintro (_ | _) _
    · simp only [go_sem, qA, qB, qC, qD, qE, qF, qG, qH, w1]
      repeat refine K ?_
      refine loop_intro (ι := Bool) (fun q => .mk [(0, .ns 0 0 2), (1, .int .i64 0), (2, .int .i64 2), (6, .int .i64 1), (7, .int .i64 (if q then 0 else 1))] [(0, 1, ints (if q then [b, a] else [a, b]))] 10) (fun q => q = true → b < a) (fun q => if q then 0 else 1) false (by simp) ?_ ?_
      · refine Sub.shape [] id (by omega) ?_ ?_ ?_ ?_ <;> simp [ints_rep]
      · rintro (_ | _) hq
        · simp only [go_sem, qA, qB, qC, qD, qE, qF, qG, qH, w0, w1, w2, w3, w4, g0, g1]
          repeat refine K ?_
          refine DA [] (less_ok b a) ?_
          try simp only [go_sem, qA, qB, qC, qD, qE, qF, qG, qH]
          repeat refine K ?_
          by_cases h : b < a
          · have g2 : (ints [a, a]).getD 0 [] = [.int .i64 a] := rfl
            try simp only [go_sem, qA, qB, qC, qD, qE, qF, qG, qH, h, w0, w1, w2, w3, w4, g0, g1, g2, ints_set]
            repeat refine K ?_
            refine back_intro true (Sub.shape [] id (by omega) ?_ ?_ ?_ ?_) trivial (by simp) <;> simp [ints_rep]
          · try simp only [go_sem, qA, qB, qC, qD, qE, qF, qG, qH, h, w0, w1, w2, w3, w4, g0, g1]
            repeat refine K ?_
            refine back_intro true (Sub.shape [] id (by omega) ?_ ?_ ?_ ?_) trivial (by simp) <;> simp [ints_rep]
            all_goals (try simp [sort2, h])
        · have h := hq rfl
          simp only [go_sem, qA, qB, qC, qD, qE, qF, qG, qH, w0, w1, w2, w3, w4]
          repeat refine K ?_
          refine back_intro true (Sub.shape [] id (by omega) ?_ ?_ ?_ ?_) trivial (by simp) <;> simp [ints_rep]
          all_goals (try simp [sort2, h])
    · simp only [go_sem, qA, qB, qC, qD, qE, qF, qG, qH]
      repeat refine K ?_
      refine ⟨_, Sub.refl _, ?_⟩; simp [FinS, nilL, nilV, oneOr, -List.drop_one]
set_option maxHeartbeats 4000000 in
theorem pdq2_ok (a b k : Int) : CallOk Try.prog num 273 [.ns 0 0 2, .int .i64 0, .int .i64 2, .int .i64 k] [(0, some (1, ints [a, b]), some (1, ints (sort2 a b)))] (.tup []) := by
  refine enter (m := m273) (f := 273) (fn := Try.f209) Try.func209 (by kernel_rfl) rfl c273 rfl (by simp [Try.f209]) (by simp [bnds, bnd, nf_sl, nf_int, nf_bool, nf_str, ints_bnd]) (by refine hb_cons _ _ _ _ ((hb_nil _).2 trivial) (by decide) ?_ <;> simp [ints_bnd]) ?_
  have w2 : IntKind.i64.wrap (2 - 0) = 2 := by decide
  unfold m273
  simp only [go_sem, qA, qB, qC, qD, qE, qF, qG, qH]
  repeat refine K ?_
  refine loop_intro (ι := Unit) (fun _ => .mk [(0, .ns 0 0 2), (1, .int .i64 0), (2, .int .i64 2)] [(0, 1, ints [a, b])] 10) (fun _ => True) (fun _ => 0) () trivial ?_ ?_
  · refine Sub.shape [] id (by omega) ?_ ?_ ?_ ?_ <;> simp [ints_rep]
  · rintro _ _
    simp only [go_sem, qA, qB, qC, qD, qE, qF, qG, qH, w2]
    repeat refine K ?_
    refine CA [] (insSort2_ok a b) ?_
    try simp only [go_sem, qA, qB, qC, qD, qE, qF, qG, qH]
    repeat refine K ?_
    try simp only [go_sem, qA, qB, qC, qD, qE, qF, qG, qH]
    repeat refine K ?_
    refine ⟨_, Sub.refl _, ?_⟩; simp [FinS, nilL, nilV, oneOr, -List.drop_one]
theorem len64_2_ok : CallOk Try.prog num 340 [.int .u64 2] [] (.int .i64 2) := by
  refine enter (m := m340) (f := 340) (fn := Try.f277) Try.func277 (by kernel_rfl) rfl c340 rfl (by simp [Try.f277]) (by simp [bnds, bnd, nf_sl, nf_int, nf_bool, nf_str, ints_bnd]) (fun _ _ h => by simp [preH, look] at h) ?_
  unfold m340
  have hu : IntKind.u8.wrap 2 = 2 := by decide
  simp only [go_sem, qA, qB, qC, qD, qE, qF, qG, qH, hu]
  repeat refine K ?_
  refine ⟨by decide, ?_⟩
  refine ⟨_, Sub.refl _, FinS_one ?_⟩
  simp [-List.drop_one, hu]
  decide
theorem len2_ok : CallOk Try.prog num 272 [.int .u64 2] [] (.int .i64 2) := by
  refine enter (m := m272) (f := 272) (fn := Try.f210) Try.func210 (by kernel_rfl) rfl c272 rfl (by simp [Try.f210]) (by simp [bnds, bnd, nf_sl, nf_int, nf_bool, nf_str, ints_bnd]) (fun _ _ h => by simp [preH, look] at h) ?_
  unfold m272
  simp only [go_sem, qA, qB, qC, qD, qE, qF, qG, qH]
  repeat refine K ?_
  refine CA [] (len64_2_ok) ?_
  try simp only [go_sem, qA, qB, qC, qD, qE, qF, qG, qH]
  repeat refine K ?_
  try simp only [go_sem, qA, qB, qC, qD, qE, qF, qG, qH]
  repeat refine K ?_
  refine ⟨_, Sub.refl _, FinS_one ?_⟩; simp [-List.drop_one]
theorem sort2_ok (a b : Int) : CallOk Try.prog num 219 [.ns 0 0 2] [(0, some (1, ints [a, b]), some (1, ints (sort2 a b)))] (.tup []) := by
  refine enter (m := m219) (f := 219) (fn := Try.f121) Try.func121 (by kernel_rfl) rfl c219 rfl (by simp [Try.f121]) (by simp [bnds, bnd, nf_sl, nf_int, nf_bool, nf_str, ints_bnd]) (by refine hb_cons _ _ _ _ ((hb_nil _).2 trivial) (by decide) ?_ <;> simp [ints_bnd]) ?_
  unfold m219
  have w2 : IntKind.u64.wrap 2 = 2 := by decide
  simp only [go_sem, qA, qB, qC, qD, qE, qF, qG, qH, w2]
  repeat refine K ?_
  refine CA [] (len2_ok) ?_
  try simp only [go_sem, qA, qB, qC, qD, qE, qF, qG, qH]
  repeat refine K ?_
  try simp only [go_sem, qA, qB, qC, qD, qE, qF, qG, qH]
  repeat refine K ?_
  refine CA [] (pdq2_ok a b 2) ?_
  try simp only [go_sem, qA, qB, qC, qD, qE, qF, qG, qH]
  repeat refine K ?_
  try simp only [go_sem, qA, qB, qC, qD, qE, qF, qG, qH]
  repeat refine K ?_
  refine ⟨_, Sub.refl _, ?_⟩; simp [FinS, nilL, nilV, oneOr, -List.drop_one]

attribute [local go_sem] e_nil
/-- Two in order, each once. -/
def uniq2 (a b : Int) : List Int := if a = b then [a] else [a, b]
set_option maxHeartbeats 4000000 in
theorem compact2_ok (a b : Int) : CallOk Try.prog num 220 [.ns 0 0 2] [(0, some (1, ints [a, b]), none)] (.sl .own 1 (ints (uniq2 a b))) := by
  refine enter (m := m220) (f := 220) (fn := Try.f122) Try.func122 (by kernel_rfl) rfl c220 rfl (by simp [Try.f122]) (by simp [bnds, bnd, nf_sl, nf_int, nf_bool, nf_str, ints_bnd]) (by refine hb_cons _ _ _ _ ((hb_nil _).2 trivial) (by decide) ?_ <;> simp [ints_bnd]) ?_
  have w3 : IntKind.i64.wrap (1 - 1) = 0 := by decide
  have w4 : IntKind.i64.wrap (1 + 1) = 2 := by decide
  have g0 : (ints [a, b]).getD 0 [] = [.int .i64 a] := rfl
  have g1 : (ints [a, b]).getD 1 [] = [.int .i64 b] := rfl
  have n2 : ((2 : Nat) : Int) = 2 := rfl
  have n1 : ((1 : Nat) : Int) = 1 := rfl
  have d1 : decide ((2 : Int) < 2) = false := by decide
  have d2 : decide ((1 : Int) < 2) = true := by decide
  have d3 : decide ((1 : Int) < 1) = false := by decide
  unfold m220
  simp only [go_sem, qA, qB, qC, qD, qE, qF, qG, qH, n2, d1]
  repeat refine K ?_
  refine loop_intro (ι := Bool) (fun q => .mk [(0, .ns 0 0 2), (3, .int .i64 (if q then 2 else 1))] [(0, 1, ints [a, b])] 10) (fun q => q = true → a ≠ b) (fun q => if q then 0 else 1) false (by simp) ?_ ?_
  · refine Sub.shape [] id (by omega) ?_ ?_ ?_ ?_ <;> simp [ints_rep]
  · rintro (_ | _) hq
    · simp only [go_sem, qA, qB, qC, qD, qE, qF, qG, qH, w3, w4, g0, g1, n2, d2]
      repeat refine K ?_
      by_cases h : b = a
      · try simp only [go_sem, qA, qB, qC, qD, qE, qF, qG, qH, h, n1, n2, d3]
        repeat refine K ?_
        refine loop_intro (ι := Unit) (fun _ => .mk [(0, .ns 0 0 2), (3, .int .i64 1), (4, .ns 0 1 1), (5, .int .i64 1)] [(0, 1, ints [a, a])] 10) (fun _ => True) (fun _ => 0) () trivial ?_ ?_
        · refine Sub.shape [] id (by omega) ?_ ?_ ?_ ?_ <;> simp [ints_rep]
        · rintro _ _
          simp only [go_sem, qA, qB, qC, qD, qE, qF, qG, qH, n1, n2, d3]
          repeat refine K ?_
          refine ⟨_, Sub.refl _, ?_⟩; simp [FinS, nilL, nilV, oneOr, -List.drop_one]
          all_goals (try simp [uniq2, ints])
          all_goals trace_state
      · try simp only [go_sem, qA, qB, qC, qD, qE, qF, qG, qH, h, w3, w4, g0, g1]
        repeat refine K ?_
        refine back_intro true (Sub.shape [] id (by omega) ?_ ?_ ?_ ?_) (fun _ e => h e.symm) (by simp) <;> simp [ints_rep]
    · have h := hq rfl
      simp only [go_sem, qA, qB, qC, qD, qE, qF, qG, qH, n2, d1]
      repeat refine K ?_
      refine ⟨_, Sub.refl _, ?_⟩; simp [FinS, nilL, nilV, oneOr, -List.drop_one]
      all_goals (try simp [uniq2, h])
      all_goals trace_state

-- S3
set_option maxHeartbeats 4000000 in
theorem implNextOf_ok (l : List Ins) (a : Nat) (hb : bodyOk l 3 = true) (ha : a < l.length) : CallOk Try.prog num 216 [.sl .bw 5 (inss l), .int .i64 a] [] (.sl .own 1 (ints (nextOf l a))) := by
  obtain ⟨hl1, hl2⟩ := body_len hb
  have hg := inss_getD l a ha
  have hw1 : IntKind.i64.wrap ((a : Int) + 1) = (a : Int) + 1 := wrap64 (by omega) (by omega)
  refine enter (m := m216) (f := 216) (fn := Try.f118) Try.func118 (by kernel_rfl) rfl c216 rfl (by simp [Try.f118]) (by simp [bnds, bnd, nf_sl, nf_int, nf_bool, nf_str, ints_bnd]) (fun _ _ h => by simp [preH, look] at h) ?_
  unfold m216
  simp only [go_sem, qA, qB, qC, qD, qE, qF, qG, qH, hg]
  repeat refine K ?_
  unfold nextOf
  generalize l.getD a default = x at hg
  simp only
  by_cases h13 : x.op = 13
  · try simp only [go_sem, qA, qB, qC, qD, qE, qF, qG, qH, h13]
    repeat refine K ?_
    refine ⟨_, Sub.refl _, FinS_one ?_⟩; simp [-List.drop_one]
    all_goals (try simp [h13, ints])
  by_cases h11 : x.op = 11
  · try simp only [go_sem, qA, qB, qC, qD, qE, qF, qG, qH, h13, h11]
    repeat refine K ?_
    refine ⟨_, Sub.refl _, FinS_one ?_⟩; simp [-List.drop_one]
    all_goals (try simp [h13, h11, ints])
  by_cases h12 : x.op = 12
  · have hs := sort2_ok ((a : Int) + 1) x.n
    have hrow : [[AV.int IntKind.i64 ((a : Int) + 1)], [AV.int IntKind.i64 x.n]] = ints [(a : Int) + 1, x.n] := rfl
    try simp only [go_sem, qA, qB, qC, qD, qE, qF, qG, qH, h13, h11, h12, hw1, hrow]
    repeat refine K ?_
    by_cases h1 : x.n < (a : Int) + 1
    · have e : sort2 ((a : Int) + 1) x.n = [x.n, (a : Int) + 1] := by simp [sort2, h1]
      have e2 : uniq2 x.n ((a : Int) + 1) = [x.n, (a : Int) + 1] := by
        unfold uniq2
        rw [if_neg (by omega)]
      rw [e] at hs
      have hc := compact2_ok x.n ((a : Int) + 1)
      rw [e2] at hc
      refine CA [(0, 11)] (hs) ?_
      try simp only [go_sem, qA, qB, qC, qD, qE, qF, qG, qH]
      repeat refine K ?_
      try simp only [go_sem, qA, qB, qC, qD, qE, qF, qG, qH]
      repeat refine K ?_
      refine CA [(0, 11)] (hc) ?_
      try simp only [go_sem, qA, qB, qC, qD, qE, qF, qG, qH]
      repeat refine K ?_
      try simp only [go_sem, qA, qB, qC, qD, qE, qF, qG, qH]
      repeat refine K ?_
      refine ⟨_, Sub.refl _, FinS_one ?_⟩; simp [-List.drop_one]
      all_goals (try simp [h1])
    · have e : sort2 ((a : Int) + 1) x.n = [(a : Int) + 1, x.n] := by simp [sort2, h1]
      rw [e] at hs
      have hc := compact2_ok ((a : Int) + 1) x.n
      by_cases h2 : (a : Int) + 1 < x.n
      · have e2 : uniq2 ((a : Int) + 1) x.n = [(a : Int) + 1, x.n] := by
          unfold uniq2
          rw [if_neg (by omega)]
        rw [e2] at hc
        refine CA [(0, 11)] (hs) ?_
        try simp only [go_sem, qA, qB, qC, qD, qE, qF, qG, qH]
        repeat refine K ?_
        try simp only [go_sem, qA, qB, qC, qD, qE, qF, qG, qH]
        repeat refine K ?_
        refine CA [(0, 11)] (hc) ?_
        try simp only [go_sem, qA, qB, qC, qD, qE, qF, qG, qH]
        repeat refine K ?_
        try simp only [go_sem, qA, qB, qC, qD, qE, qF, qG, qH]
        repeat refine K ?_
        refine ⟨_, Sub.refl _, FinS_one ?_⟩; simp [-List.drop_one]
        all_goals (try simp [h1, h2])
      · have e2 : uniq2 ((a : Int) + 1) x.n = [(a : Int) + 1] := by
          unfold uniq2
          rw [if_pos (by omega)]
        rw [e2] at hc
        refine CA [(0, 11)] (hs) ?_
        try simp only [go_sem, qA, qB, qC, qD, qE, qF, qG, qH]
        repeat refine K ?_
        try simp only [go_sem, qA, qB, qC, qD, qE, qF, qG, qH]
        repeat refine K ?_
        refine CA [(0, 11)] (hc) ?_
        try simp only [go_sem, qA, qB, qC, qD, qE, qF, qG, qH]
        repeat refine K ?_
        try simp only [go_sem, qA, qB, qC, qD, qE, qF, qG, qH]
        repeat refine K ?_
        refine ⟨_, Sub.refl _, FinS_one ?_⟩; simp [-List.drop_one]
        all_goals (try simp [h1, h2])
  try simp only [go_sem, qA, qB, qC, qD, qE, qF, qG, qH, h13, h11, h12, hw1]
  repeat refine K ?_
  refine ⟨_, Sub.refl _, FinS_one ?_⟩; simp [-List.drop_one]
  all_goals (try simp [h13, h11, h12, ints])


end Go.Sep
