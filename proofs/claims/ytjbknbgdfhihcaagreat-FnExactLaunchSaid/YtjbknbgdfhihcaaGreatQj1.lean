/- Contracts of functions. -/
import Derived.Test.YtjbknbgdfhihcaaGreatFns
import Derived.Test.YtjbknbgdfhihcaaGreatQa0
import Derived.Test.YtjbknbgdfhihcaaGreatQd0
import Derived.Test.YtjbknbgdfhihcaaGreatQe0
import Derived.Test.YtjbknbgdfhihcaaGreatQf0
import Derived.Test.YtjbknbgdfhihcaaGreatQj0
import Derived.Test.YtjbknbgdfhihcaaGreatQa1
import Derived.Test.YtjbknbgdfhihcaaGreatQb1
import Derived.Test.YtjbknbgdfhihcaaGreatQc1
import Derived.Test.YtjbknbgdfhihcaaGreatQd1
import Derived.Test.YtjbknbgdfhihcaaGreatQe1
namespace Go.Sep
open Go.Proofs
set_option linter.unusedSimpArgs false
set_option linter.unusedVariables false
set_option maxRecDepth 100000
open Nat renaming reduceAdd → qA, reduceMul → qB, reduceEqDiff → qC, reduceBEq → qD
open Int renaming reduceToNat → qE, reduceEq → qF, reduceLT → qG, reduceLE → qH
open List renaming getD_eq_getElem?_getD → gD
def m27 : MFn := ⟨18, [.t 4], .seq (xr [xo 2 (.box (.t 0)), xo 4 (.mv (xi 0))]) (.seq (xr [xo 5 (.fad 0 (.t 2)), xo 6 (.load 1 false (.t 5)), xv 7 1, xo 8 (.call 35 [false, false] [.t 6, .t 7]), xv 1 8]) (.seq (.seq (xr [xv 9 1, xo 10 (.bin .lss (.t 9) (xi 0))]) (.cond 10 (.seq (xr [xo 4 (.mv (.c (.int .i64 (-1))))]) (.ret)) (.skip))) (.seq (xr [xo 11 (.fad 1 (.t 2)), xo 12 (.load 1 false (.t 11)), xv 13 1, xo 14 (.call 51 [false, false] [.t 12, .t 13]), xv 1 14]) (.seq (.seq (xr [xv 15 1, xo 16 (.bin .lss (.t 15) (xi 0))]) (.cond 16 (.seq (xr [xo 4 (.mv (.c (.int .i64 (-1))))]) (.ret)) (.skip))) (.seq (xr [xv 17 1, xv 4 17]) (.ret))))))⟩
theorem c27 : chkC Tryz.prog num Tryz.f26.ntmps m27.body ((Tryz.f26.body).getD .skip) = true := by kernel_rfl
def m28 : MFn := ⟨13, [.cell 2 2 true], .seq (xr [xo 1 (.box (.t 0)), xo 2 (.alloc [.nil, .nil])]) (.seq (xr [xo 3 (.alloc [.nil, .nil])]) (.seq (xr [xo 4 (.fad 0 (.t 1)), xo 5 (.load 1 false (.t 4)), xo 6 (.call 5 [false] [.t 5]), xo 7 (.fad 0 (.t 3)), ⟨none, .store 1 (.t 7) (.t 6), none⟩]) (.seq (xr [xo 8 (.fad 1 (.t 1)), xo 9 (.load 1 false (.t 8)), xo 10 (.call 52 [false] [.t 9]), xo 11 (.fad 1 (.t 3)), ⟨none, .store 1 (.t 11) (.t 10), none⟩]) (.seq (xr [xo 12 (.load 2 true (.t 3)), ⟨none, .store 2 (.t 2) (.t 12), none⟩]) (.ret)))))⟩
theorem c28 : chkC Tryz.prog num Tryz.f28.ntmps m28.body ((Tryz.f28.body).getD .skip) = true := by kernel_rfl
def m30 : MFn := ⟨17, [.t 4], .seq (xr [xo 2 (.box (.t 0)), xo 3 (.box (.t 1)), xo 4 (.mv (.c (.bool false)))]) (.seq (.seq (xr [xo 5 (.fad 0 (.t 2)), xo 6 (.load 1 false (.t 5)), xo 7 (.fad 0 (.t 3)), xo 8 (.load 1 false (.t 7)), xo 9 (.call 8 [false, false] [.t 6, .t 8]), xo 10 (.un .«not» (.t 9))]) (.cond 10 (.seq (xr [xo 4 (.mv (.c (.bool false)))]) (.ret)) (.skip))) (.seq (.seq (xr [xo 11 (.fad 1 (.t 2)), xo 12 (.load 1 false (.t 11)), xo 13 (.fad 1 (.t 3)), xo 14 (.load 1 false (.t 13)), xo 15 (.call 53 [false, false] [.t 12, .t 14]), xo 16 (.un .«not» (.t 15))]) (.cond 16 (.seq (xr [xo 4 (.mv (.c (.bool false)))]) (.ret)) (.skip))) (.seq (xr [xo 4 (.mv (.c (.bool true)))]) (.ret))))⟩
theorem c30 : chkC Tryz.prog num Tryz.f30.ntmps m30.body ((Tryz.f30.body).getD .skip) = true := by kernel_rfl
def m31 : MFn := ⟨14, [.t 4], .seq (xr [xo 2 (.box (.t 0)), xo 4 (.mv (xi 0))]) (.seq (xr [xo 5 (.fad 0 (.t 2)), xo 6 (.load 1 false (.t 5)), xv 7 1, xo 8 (.call 16 [true, false] [.t 6, .t 7]), xv 1 8]) (.seq (xr [xo 9 (.fad 1 (.t 2)), xo 10 (.load 1 false (.t 9)), xv 11 1, xo 12 (.call 54 [true, false] [.t 10, .t 11]), xv 1 12]) (.seq (xr [xv 13 1, xv 4 13]) (.ret))))⟩
theorem c31 : chkC Tryz.prog num Tryz.f31.ntmps m31.body ((Tryz.f31.body).getD .skip) = true := by kernel_rfl
def m51 : MFn := ⟨27, [.t 4], .seq (xr [xo 4 (.mv (xi 0))]) (.seq (xr [xv 6 1, xv 7 0, xo 8 (.len (.t 7)), xo 9 (.bin .sub (.t 6) (.t 8)), xv 1 9]) (.seq (.seq (xr [xv 10 1, xo 11 (.bin .lss (.t 10) (xi 0))]) (.cond 11 (.seq (xr [xo 4 (.mv (.c (.int .i64 (-1))))]) (.ret)) (.skip))) (.seq (.seq (xr [xo 5 (.mv (xi 0))]) (.blk 0 (.loop (.seq (.seq (xr [xv 12 5, xv 13 0, xo 14 (.len (.t 13)), xo 15 (.bin .lss (.t 12) (.t 14))]) (.cond 15 (.skip) (.exit 0))) (.seq (.blk 1 (.seq (xr [xv 18 0, xv 19 5, xo 20 (.iad 1 (.t 18) (.t 19)), xo 21 (.load 1 false (.t 20)), xv 22 1, xo 23 (.call 73 [false, false] [.t 21, .t 22]), xv 1 23]) (.seq (xr [xv 24 1, xo 25 (.bin .lss (.t 24) (xi 0))]) (.cond 25 (.seq (xr [xo 4 (.mv (.c (.int .i64 (-1))))]) (.ret)) (.skip))))) (xr [xv 16 5, xo 17 (.bin .add (.t 16) (xi 1)), xv 5 17])))))) (.seq (xr [xv 26 1, xv 4 26]) (.ret)))))⟩
theorem c51 : chkC Tryz.prog num Tryz.f79.ntmps m51.body ((Tryz.f79.body).getD .skip) = true := by kernel_rfl
def m52 : MFn := ⟨23, [.t 2], .seq (xr [xo 2 (.mv (.c (.nil)))]) (.seq (xr [xv 5 0, xo 6 (.len (.t 5)), xo 7 (.mkS [.nil] 24 (.t 6) (.t 6)), xv 3 7]) (.seq (.seq (xr [xo 4 (.mv (xi 0))]) (.blk 0 (.loop (.seq (.seq (xr [xv 8 4, xv 9 0, xo 10 (.len (.t 9)), xo 11 (.bin .lss (.t 8) (.t 10))]) (.cond 11 (.skip) (.exit 0))) (.seq (.blk 1 (xr [xv 14 3, xv 15 4, xv 16 0, xv 17 4, xo 18 (.iad 1 (.t 16) (.t 17)), xo 19 (.load 1 false (.t 18)), xo 20 (.call 74 [false] [.t 19]), xo 21 (.iad 1 (.t 14) (.t 15)), ⟨none, .store 1 (.t 21) (.t 20), none⟩])) (xr [xv 12 4, xo 13 (.bin .add (.t 12) (xi 1)), xv 4 13])))))) (.seq (xr [xv 22 3, xv 2 22]) (.ret))))⟩
theorem c52 : chkC Tryz.prog num Tryz.f83.ntmps m52.body ((Tryz.f83.body).getD .skip) = true := by kernel_rfl
def m53 : MFn := ⟨27, [.t 4], .seq (xr [xo 4 (.mv (.c (.bool false)))]) (.seq (.seq (xr [xv 6 0, xo 7 (.len (.t 6)), xv 8 1, xo 9 (.len (.t 8)), xo 10 (.bin .neq (.t 7) (.t 9))]) (.cond 10 (.seq (xr [xo 4 (.mv (.c (.bool false)))]) (.ret)) (.skip))) (.seq (.seq (xr [xo 5 (.mv (xi 0))]) (.blk 0 (.loop (.seq (.seq (xr [xv 11 5, xv 12 0, xo 13 (.len (.t 12)), xo 14 (.bin .lss (.t 11) (.t 13))]) (.cond 14 (.skip) (.exit 0))) (.seq (.blk 1 (.seq (.dreg (.take 0 (xv 17 0) (.take 1 (xv 18 5) (.take 2 (xo 19 (.iad 1 (.t 17) (.t 18))) (.take 3 (xo 20 (.load 1 false (.t 19))) (.take 4 (xv 21 1) (.only 5 [] (xv 22 5) (.only 6 [4] (xo 23 (.iad 1 (.t 21) (.t 22))) (.only 7 [6, 4] (xo 24 (.load 1 false (.t 23))) (.only 8 [3, 7, 2, 6, 0, 1, 4] (xo 25 (.call 75 [false, false] [.t 20, .t 24])) (.only 9 [8, 3, 7, 2, 6, 0, 1, 4] (xo 26 (.un .«not» (.t 25))) (.done)))))))))))) (.cond 26 (.seq (xr [xo 4 (.mv (.c (.bool false)))]) (.ret)) (.skip)))) (xr [xv 15 5, xo 16 (.bin .add (.t 15) (xi 1)), xv 5 16])))))) (.seq (xr [xo 4 (.mv (.c (.bool true)))]) (.ret))))⟩
theorem c53 : chkC Tryz.prog num Tryz.f86.ntmps m53.body ((Tryz.f86.body).getD .skip) = true := by kernel_rfl
def m54 : MFn := ⟨19, [.t 4], .seq (xr [xo 4 (.mv (xi 0))]) (.seq (.seq (xr [xo 5 (.mv (xi 0))]) (.blk 0 (.loop (.seq (.seq (xr [xv 6 5, xv 7 0, xo 8 (.len (.t 7)), xo 9 (.bin .lss (.t 6) (.t 8))]) (.cond 9 (.skip) (.exit 0))) (.seq (.blk 1 (xr [xv 12 0, xv 13 5, xo 14 (.iad 1 (.t 12) (.t 13)), xo 15 (.load 1 false (.t 14)), xv 16 1, xo 17 (.call 76 [true, false] [.t 15, .t 16]), xv 1 17])) (xr [xv 10 5, xo 11 (.bin .add (.t 10) (xi 1)), xv 5 11])))))) (.seq (xr [xv 18 1, xv 4 18]) (.ret)))⟩
theorem c54 : chkC Tryz.prog num Tryz.f87.ntmps m54.body ((Tryz.f87.body).getD .skip) = true := by kernel_rfl
def m73 : MFn := ⟨12, [.t 4], .seq (xr [xo 4 (.mv (xi 0))]) (.seq (xr [xv 5 1, xv 6 0, xo 7 (.len (.t 6)), xo 8 (.bin .sub (.t 5) (.t 7)), xv 1 8]) (.seq (.seq (xr [xv 9 1, xo 10 (.bin .lss (.t 9) (xi 0))]) (.cond 10 (.seq (xr [xo 4 (.mv (.c (.int .i64 (-1))))]) (.ret)) (.skip))) (.seq (xr [xv 11 1, xv 4 11]) (.ret))))⟩
theorem c73 : chkC Tryz.prog num Tryz.f154.ntmps m73.body ((Tryz.f154.body).getD .skip) = true := by kernel_rfl
def m74 : MFn := ⟨23, [.t 2], .seq (xr [xo 2 (.mv (.c (.nil)))]) (.seq (xr [xv 5 0, xo 6 (.len (.t 5)), xo 7 (.mkS [xz, xz, xz, xz, xz] 40 (.t 6) (.t 6)), xv 3 7]) (.seq (.seq (xr [xo 4 (.mv (xi 0))]) (.blk 0 (.loop (.seq (.seq (xr [xv 8 4, xv 9 0, xo 10 (.len (.t 9)), xo 11 (.bin .lss (.t 8) (.t 10))]) (.cond 11 (.skip) (.exit 0))) (.seq (.blk 1 (xr [xv 14 3, xv 15 4, xv 16 0, xv 17 4, xo 18 (.iad 5 (.t 16) (.t 17)), xo 19 (.load 5 true (.t 18)), xo 20 (.call 89 [false] [.t 19]), xo 21 (.iad 5 (.t 14) (.t 15)), ⟨none, .store 5 (.t 21) (.t 20), none⟩])) (xr [xv 12 4, xo 13 (.bin .add (.t 12) (xi 1)), xv 4 13])))))) (.seq (xr [xv 22 3, xv 2 22]) (.ret))))⟩
theorem c74 : chkC Tryz.prog num Tryz.f159.ntmps m74.body ((Tryz.f159.body).getD .skip) = true := by kernel_rfl
def m75 : MFn := ⟨27, [.t 4], .seq (xr [xo 4 (.mv (.c (.bool false)))]) (.seq (.seq (xr [xv 6 0, xo 7 (.len (.t 6)), xv 8 1, xo 9 (.len (.t 8)), xo 10 (.bin .neq (.t 7) (.t 9))]) (.cond 10 (.seq (xr [xo 4 (.mv (.c (.bool false)))]) (.ret)) (.skip))) (.seq (.seq (xr [xo 5 (.mv (xi 0))]) (.blk 0 (.loop (.seq (.seq (xr [xv 11 5, xv 12 0, xo 13 (.len (.t 12)), xo 14 (.bin .lss (.t 11) (.t 13))]) (.cond 14 (.skip) (.exit 0))) (.seq (.blk 1 (.seq (.dreg (.take 0 (xv 17 0) (.take 1 (xv 18 5) (.take 2 (xo 19 (.iad 5 (.t 17) (.t 18))) (.take 3 (xo 20 (.load 5 true (.t 19))) (.take 4 (xv 21 1) (.only 5 [] (xv 22 5) (.only 6 [4] (xo 23 (.iad 5 (.t 21) (.t 22))) (.only 7 [6, 4] (xo 24 (.load 5 true (.t 23))) (.only 8 [3, 7, 2, 6, 0, 1, 4] (xo 25 (.call 90 [false, false] [.t 20, .t 24])) (.only 9 [8, 3, 7, 2, 6, 0, 1, 4] (xo 26 (.un .«not» (.t 25))) (.done)))))))))))) (.cond 26 (.seq (xr [xo 4 (.mv (.c (.bool false)))]) (.ret)) (.skip)))) (xr [xv 15 5, xo 16 (.bin .add (.t 15) (xi 1)), xv 5 16])))))) (.seq (xr [xo 4 (.mv (.c (.bool true)))]) (.ret))))⟩
theorem c75 : chkC Tryz.prog num Tryz.f164.ntmps m75.body ((Tryz.f164.body).getD .skip) = true := by kernel_rfl
def m76 : MFn := ⟨48, [.t 4], .seq (xr [xo 4 (.mv (xi 0))]) (.seq (.seq (xr [xo 5 (.mv (xi 0))]) (.blk 0 (.loop (.seq (.seq (xr [xv 6 5, xv 7 0, xo 8 (.len (.t 7)), xo 9 (.bin .lss (.t 6) (.t 8))]) (.cond 9 (.skip) (.exit 0))) (.seq (.blk 1 (.seq (xr [xv 12 0, xv 13 5, xv 14 1, xo 15 (.iad 5 (.t 12) (.t 13)), xo 16 (.fad 0 (.t 15)), ⟨none, .store 1 (.t 16) (.t 14), none⟩]) (.seq (xr [xv 17 1, xo 18 (.bin .add (.t 17) (xi 1)), xv 1 18]) (.seq (xr [xv 19 0, xv 20 5, xv 21 1, xo 22 (.iad 5 (.t 19) (.t 20)), xo 23 (.fad 1 (.t 22)), ⟨none, .store 1 (.t 23) (.t 21), none⟩]) (.seq (xr [xv 24 1, xo 25 (.bin .add (.t 24) (xi 1)), xv 1 25]) (.seq (xr [xv 26 0, xv 27 5, xv 28 1, xo 29 (.iad 5 (.t 26) (.t 27)), xo 30 (.fad 2 (.t 29)), ⟨none, .store 1 (.t 30) (.t 28), none⟩]) (.seq (xr [xv 31 1, xo 32 (.bin .add (.t 31) (xi 1)), xv 1 32]) (.seq (xr [xv 33 0, xv 34 5, xv 35 1, xo 36 (.iad 5 (.t 33) (.t 34)), xo 37 (.fad 3 (.t 36)), ⟨none, .store 1 (.t 37) (.t 35), none⟩]) (.seq (xr [xv 38 1, xo 39 (.bin .add (.t 38) (xi 1)), xv 1 39]) (.seq (xr [xv 40 0, xv 41 5, xv 42 1, xo 43 (.iad 5 (.t 40) (.t 41)), xo 44 (.fad 4 (.t 43)), ⟨none, .store 1 (.t 44) (.t 42), none⟩]) (xr [xv 45 1, xo 46 (.bin .add (.t 45) (xi 1)), xv 1 46]))))))))))) (xr [xv 10 5, xo 11 (.bin .add (.t 10) (xi 1)), xv 5 11])))))) (.seq (xr [xv 47 1, xv 4 47]) (.ret)))⟩
theorem c76 : chkC Tryz.prog num Tryz.f165.ntmps m76.body ((Tryz.f165.body).getD .skip) = true := by kernel_rfl
def m89 : MFn := ⟨20, [.cell 2 5 true], .seq (xr [xo 1 (.box (.t 0)), xo 2 (.alloc [xz, xz, xz, xz, xz])]) (.seq (xr [xo 3 (.alloc [xz, xz, xz, xz, xz])]) (.seq (xr [xo 4 (.fad 0 (.t 1)), xo 5 (.load 1 false (.t 4)), xo 6 (.fad 0 (.t 3)), ⟨none, .store 1 (.t 6) (.t 5), none⟩]) (.seq (xr [xo 7 (.fad 1 (.t 1)), xo 8 (.load 1 false (.t 7)), xo 9 (.fad 1 (.t 3)), ⟨none, .store 1 (.t 9) (.t 8), none⟩]) (.seq (xr [xo 10 (.fad 2 (.t 1)), xo 11 (.load 1 false (.t 10)), xo 12 (.fad 2 (.t 3)), ⟨none, .store 1 (.t 12) (.t 11), none⟩]) (.seq (xr [xo 13 (.fad 3 (.t 1)), xo 14 (.load 1 false (.t 13)), xo 15 (.fad 3 (.t 3)), ⟨none, .store 1 (.t 15) (.t 14), none⟩]) (.seq (xr [xo 16 (.fad 4 (.t 1)), xo 17 (.load 1 false (.t 16)), xo 18 (.fad 4 (.t 3)), ⟨none, .store 1 (.t 18) (.t 17), none⟩]) (.seq (xr [xo 19 (.load 5 true (.t 3)), ⟨none, .store 5 (.t 2) (.t 19), none⟩]) (.ret))))))))⟩
theorem c89 : chkC Tryz.prog num Tryz.f217.ntmps m89.body ((Tryz.f217.body).getD .skip) = true := by kernel_rfl
def m90 : MFn := ⟨30, [.t 4], .seq (xr [xo 2 (.box (.t 0)), xo 3 (.box (.t 1)), xo 4 (.mv (.c (.bool false)))]) (.seq (.seq (xr [xo 5 (.fad 0 (.t 2)), xo 6 (.load 1 false (.t 5)), xo 7 (.fad 0 (.t 3)), xo 8 (.load 1 false (.t 7)), xo 9 (.bin .neq (.t 6) (.t 8))]) (.cond 9 (.seq (xr [xo 4 (.mv (.c (.bool false)))]) (.ret)) (.skip))) (.seq (.seq (xr [xo 10 (.fad 1 (.t 2)), xo 11 (.load 1 false (.t 10)), xo 12 (.fad 1 (.t 3)), xo 13 (.load 1 false (.t 12)), xo 14 (.bin .neq (.t 11) (.t 13))]) (.cond 14 (.seq (xr [xo 4 (.mv (.c (.bool false)))]) (.ret)) (.skip))) (.seq (.seq (xr [xo 15 (.fad 2 (.t 2)), xo 16 (.load 1 false (.t 15)), xo 17 (.fad 2 (.t 3)), xo 18 (.load 1 false (.t 17)), xo 19 (.bin .neq (.t 16) (.t 18))]) (.cond 19 (.seq (xr [xo 4 (.mv (.c (.bool false)))]) (.ret)) (.skip))) (.seq (.seq (xr [xo 20 (.fad 3 (.t 2)), xo 21 (.load 1 false (.t 20)), xo 22 (.fad 3 (.t 3)), xo 23 (.load 1 false (.t 22)), xo 24 (.bin .neq (.t 21) (.t 23))]) (.cond 24 (.seq (xr [xo 4 (.mv (.c (.bool false)))]) (.ret)) (.skip))) (.seq (.seq (xr [xo 25 (.fad 4 (.t 2)), xo 26 (.load 1 false (.t 25)), xo 27 (.fad 4 (.t 3)), xo 28 (.load 1 false (.t 27)), xo 29 (.bin .neq (.t 26) (.t 28))]) (.cond 29 (.seq (xr [xo 4 (.mv (.c (.bool false)))]) (.ret)) (.skip))) (.seq (xr [xo 4 (.mv (.c (.bool true)))]) (.ret)))))))⟩
theorem c90 : chkC Tryz.prog num Tryz.f226.ntmps m90.body ((Tryz.f226.body).getD .skip) = true := by kernel_rfl
theorem szInsS_ok (xs : List Ins) (n : Int) (hx : xs.length < 2 ^ 63) (h0 : 0 ≤ n) (h1 : n ≤ 2 ^ 62) : CallOk Tryz.prog num 73 [.sl .bw 5 (inss xs), .int .i64 n] [] (.int .i64 (szL xs.length n)) := by
  refine enter (m := m73) (f := 73) (fn := Tryz.f154) Tryz.func154 (by kernel_rfl) rfl c73 rfl (by simp [Tryz.f154]) (by simp [bnds, bnd, nf_sl, nf_int, nf_bool, nf_str, ints_bnd]) (fun _ _ h => by simp [preH, look] at h) ?_
  unfold m73
  have hw : IntKind.i64.wrap (n - xs.length) = n - xs.length := wrap64 (by omega) (by omega)
  simp only [go_sem, qA, qB, qC, qD, qE, qF, qG, qH, hw]
  repeat refine K ?_
  refine branch_intro (fun hc => ?_) (fun hc => ?_)
  · simp only [go_sem, qA, qB, qC, qD, qE, qF, qG, qH]
    repeat refine K ?_
    refine ⟨_, Sub.refl _, ?_⟩; simp [FinS, nilL, nilV, oneOr, -List.drop_one]
    simp only [decide_eq_true_eq] at hc
    simp [szL, hc]
  · simp only [go_sem, qA, qB, qC, qD, qE, qF, qG, qH]
    repeat refine K ?_
    refine ⟨_, Sub.refl _, ?_⟩; simp [FinS, nilL, nilV, oneOr, -List.drop_one]
    simp only [decide_eq_false_iff_not] at hc
    simp [szL, hc]
def szRows : List (List Ins) → Int → Int
  | [], n => n
  | b :: l, n => if szL b.length n < 0 then -1 else szRows l (szL b.length n)
def szBods (l : List (List Ins)) (n : Int) : Int := if szL l.length n < 0 then -1 else szRows l (szL l.length n)
theorem szInsSS_ok (l : List (List Ins)) (n : Int) (hl : l.length < 2 ^ 63) (hb : ∀ b ∈ l, b.length < 2 ^ 63) (h0 : 0 ≤ n) (h1 : n ≤ 2 ^ 61) : CallOk Tryz.prog num 51 [.sl .bw 1 (bodies .bw l), .int .i64 n] [] (.int .i64 (szBods l n)) := by
  refine enter (m := m51) (f := 51) (fn := Tryz.f79) Tryz.func79 (by kernel_rfl) rfl c51 rfl (by simp [Tryz.f79]) (by simp [bnds, bnd, nf_sl, nf_int, nf_bool, nf_str, ints_bnd]) (fun _ _ h => by simp [preH, look] at h) ?_
  unfold m51
  have hw : IntKind.i64.wrap (n - l.length) = n - l.length := wrap64 (by omega) (by omega)
  simp only [go_sem, qA, qB, qC, qD, qE, qF, qG, qH, hw]
  repeat refine K ?_
  refine branch_intro (fun hc => ?_) (fun hc => ?_)
  · simp only [go_sem, qA, qB, qC, qD, qE, qF, qG, qH]
    repeat refine K ?_
    refine ⟨_, Sub.refl _, ?_⟩; simp [FinS, nilL, nilV, oneOr, -List.drop_one]
    simp only [decide_eq_true_eq] at hc
    simp [szBods, szL, hc]
  · simp only [decide_eq_false_iff_not] at hc
    simp only [go_sem, qA, qB, qC, qD, qE, qF, qG, qH]
    repeat refine K ?_
    refine loop_intro (ι := Nat × Int) (fun i => .mk [(0, .sl .bw 1 (bodies .bw l)), (1, .int .i64 i.2), (5, .int .i64 i.1)] [] 10) (fun i => i.1 ≤ l.length ∧ 0 ≤ i.2 ∧ i.2 ≤ 2 ^ 61 ∧ szRows (l.drop i.1) i.2 = szRows l (n - l.length)) (fun i => l.length - i.1) (0, n - l.length) ⟨by simp, by simp; omega, by simp; omega, rfl⟩ ?_ ?_
    · refine Sub.shape [] id (by omega) ?_ ?_ ?_ ?_ <;> simp [ints_rep]
    · rintro ⟨i, m⟩ ⟨hi, hm0, hm1, hs⟩
      simp only at hi hm0 hm1 hs ⊢
      simp only [go_sem, qA, qB, qC, qD, qE, qF, qG, qH]
      refine branch_intro (fun hc2 => ?_) (fun hc2 => ?_)
      · simp only [decide_eq_true_eq] at hc2
        have hl' : i < l.length := by omega
        have hbl := hb _ (getD_mem l i [] hl')
        have hd : l.drop i = l.getD i [] :: l.drop (i + 1) := by rw [List.drop_eq_getElem_cons hl']; simp [List.getD_eq_getElem?_getD, hl']
        rw [hd] at hs
        simp only [szRows] at hs
        simp only [go_sem, qA, qB, qC, qD, qE, qF, qG, qH, bodies_getD .bw l i hl']
        repeat refine K ?_
        refine CA [] (szInsS_ok (l.getD i []) m hbl hm0 (by omega)) ?_
        try simp only [go_sem, qA, qB, qC, qD, qE, qF, qG, qH]
        repeat refine K ?_
        have hle := szL_le (k := (l.getD i []).length) hm0
        refine branch_intro (fun hc3 => ?_) (fun hc3 => ?_)
        · simp only [go_sem, qA, qB, qC, qD, qE, qF, qG, qH]
          repeat refine K ?_
          refine ⟨_, Sub.refl _, ?_⟩; simp [FinS, nilL, nilV, oneOr, -List.drop_one]
          simp only [decide_eq_true_eq] at hc3
          rw [if_pos hc3] at hs
          have e : szL l.length n = n - l.length := by unfold szL; rw [if_neg hc]
          simp only [szBods, e, if_neg hc]
          exact hs.symm
        · simp only [decide_eq_false_iff_not] at hc3
          rw [if_neg hc3] at hs
          simp only [go_sem, qA, qB, qC, qD, qE, qF, qG, qH, wrap_succ (i := i) (by omega)]
          repeat refine K ?_
          refine back_intro (i + 1, szL (l.getD i []).length m) (Sub.shape [] id (by omega) ?_ ?_ ?_ ?_) ⟨hl', by simp only; omega, by simp only; omega, hs⟩ (by simp only; omega)
          all_goals simp [ints_rep]
      · simp only [decide_eq_false_iff_not] at hc2
        have hd : l.drop i = [] := List.drop_eq_nil_of_le (by omega)
        rw [hd] at hs
        simp only [szRows] at hs
        simp only [go_sem, qA, qB, qC, qD, qE, qF, qG, qH]
        repeat refine K ?_
        refine ⟨_, Sub.refl _, ?_⟩; simp [FinS, nilL, nilV, oneOr, -List.drop_one]
        have e : szL l.length n = n - l.length := by unfold szL; rw [if_neg hc]
        simp only [szBods, e, if_neg hc]
        exact hs.symm
def szProg (p : Prog) (n : Int) : Int := if szL p.caps.length n < 0 then -1 else if szBods p.bods (szL p.caps.length n) < 0 then -1 else szBods p.bods (szL p.caps.length n)
theorem szProg_ok (p : Prog) (n : Int) (hc : p.caps.length < 2 ^ 63) (hl : p.bods.length < 2 ^ 63) (hb : ∀ b ∈ p.bods, b.length < 2 ^ 63) (h0 : 0 ≤ n) (h1 : n ≤ 2 ^ 61) : CallOk Tryz.prog num 27 [.agg (progC .bw p), .int .i64 n] [] (.int .i64 (szProg p n)) := by
  refine enter (m := m27) (f := 27) (fn := Tryz.f26) Tryz.func26 (by kernel_rfl) rfl c27 rfl (by simp [Tryz.f26]) (by simp [bnds, bnd, nf_sl, nf_int, nf_bool, nf_str, ints_bnd]) (fun _ _ h => by simp [preH, look] at h) ?_
  unfold m27
  simp only [go_sem, qA, qB, qC, qD, qE, qF, qG, qH]
  repeat refine K ?_
  refine CA [] (szIntS_ok p.caps n hc h0 (by omega)) ?_
  try simp only [go_sem, qA, qB, qC, qD, qE, qF, qG, qH]
  repeat refine K ?_
  have hle := szL_le (k := p.caps.length) h0
  refine branch_intro (fun hk => ?_) (fun hk => ?_)
  · simp only [decide_eq_true_eq] at hk
    simp only [go_sem, qA, qB, qC, qD, qE, qF, qG, qH]
    repeat refine K ?_
    refine ⟨_, Sub.refl _, ?_⟩; simp [FinS, nilL, nilV, oneOr, -List.drop_one]
    simp [szProg, hk]
  · simp only [decide_eq_false_iff_not] at hk
    simp only [go_sem, qA, qB, qC, qD, qE, qF, qG, qH]
    repeat refine K ?_
    refine CA [] (szInsSS_ok p.bods (szL p.caps.length n) hl hb (by omega) (by omega)) ?_
    try simp only [go_sem, qA, qB, qC, qD, qE, qF, qG, qH]
    repeat refine K ?_
    refine branch_intro (fun hk2 => ?_) (fun hk2 => ?_)
    · simp only [decide_eq_true_eq] at hk2
      simp only [go_sem, qA, qB, qC, qD, qE, qF, qG, qH]
      repeat refine K ?_
      refine ⟨_, Sub.refl _, ?_⟩; simp [FinS, nilL, nilV, oneOr, -List.drop_one]
      simp [szProg, hk, hk2]
    · simp only [decide_eq_false_iff_not] at hk2
      simp only [go_sem, qA, qB, qC, qD, qE, qF, qG, qH]
      repeat refine K ?_
      refine ⟨_, Sub.refl _, ?_⟩; simp [FinS, nilL, nilV, oneOr, -List.drop_one]
      simp [szProg, hk, hk2]
theorem toIns_ok (x : Ins) : CallOk Tryz.prog num 89 [.agg (insC x)] [] (.agg (insC x)) := by
  refine enter (m := m89) (f := 89) (fn := Tryz.f217) Tryz.func217 (by kernel_rfl) rfl c89 rfl (by simp [Tryz.f217]) (by simp [bnds, bnd, nf_sl, nf_int, nf_bool, nf_str, ints_bnd]) (fun _ _ h => by simp [preH, look] at h) ?_
  unfold m89
  simp only [go_sem, qA, qB, qC, qD, qE, qF, qG, qH]
  repeat refine K ?_
  refine ⟨_, Sub.refl _, FinS_one ?_⟩; simp [-List.drop_one]
theorem toInsS_ok (l : List Ins) (hl : 40 * l.length ≤ 2 ^ 47) : CallOk Tryz.prog num 74 [.sl .bw 5 (inss l)] [] (.sl .own 5 (inss l)) := by
  refine enter (m := m74) (f := 74) (fn := Tryz.f159) Tryz.func159 (by kernel_rfl) rfl c74 rfl (by simp [Tryz.f159]) (by simp [bnds, bnd, nf_sl, nf_int, nf_bool, nf_str, ints_bnd]) (fun _ _ h => by simp [preH, look] at h) ?_
  unfold m74
  simp only [go_sem, qA, qB, qC, qD, qE, qF, qG, qH]
  repeat refine K ?_
  refine loop_intro (ι := Nat) (fun i => .mk [(0, .sl .bw 5 (inss l)), (3, .ns 10 0 l.length), (4, .int .i64 i)] [(10, 5, inss (l.take i ++ List.replicate (l.length - i) ⟨0, 0, 0, 0, 0⟩))] 11) (fun i => i ≤ l.length) (fun i => l.length - i) 0 (by simp) ?_ ?_
  · refine Sub.shape [] id (by omega) ?_ ?_ ?_ ?_ <;> simp [ints_rep]
    left
    exact inss_rep _ _ _ _ _ _
  · intro i hi
    simp only [go_sem, qA, qB, qC, qD, qE, qF, qG, qH]
    refine branch_intro (fun hc => ?_) (fun hc => ?_)
    · simp only [decide_eq_true_eq] at hc
      have hl' : i < l.length := by omega
      have hm := fill_length l (⟨0, 0, 0, 0, 0⟩ : Ins) i hi
      simp only [go_sem, qA, qB, qC, qD, qE, qF, qG, qH, inss_getD l i hl', hm]
      repeat refine K ?_
      refine CA [] (toIns_ok (l.getD i default)) ?_
      try simp only [go_sem, qA, qB, qC, qD, qE, qF, qG, qH]
      repeat refine K ?_
      have hs := fill_set l default (⟨0, 0, 0, 0, 0⟩ : Ins) i hl'
      have hs' : (l.take i ++ List.replicate (l.length - i) (⟨0, 0, 0, 0, 0⟩ : Ins)).set i ⟨(l.getD i default).op, (l.getD i default).r, (l.getD i default).a, (l.getD i default).b, (l.getD i default).n⟩ = l.take (i + 1) ++ List.replicate (l.length - (i + 1)) ⟨0, 0, 0, 0, 0⟩ := hs
      try simp only [go_sem, qA, qB, qC, qD, qE, qF, qG, qH, inss_getD _ i (hm ▸ hl'), hm, hs', wrap_succ (i := i) (by omega)]
      repeat refine K ?_
      refine back_intro (i + 1) (Sub.shape [] id (by omega) ?_ ?_ ?_ ?_) ?_ ?_
      any_goals (first | omega | (simp [ints_rep]; done))
    · simp only [decide_eq_false_iff_not] at hc
      have : i = l.length := by omega
      subst this
      simp only [go_sem, qA, qB, qC, qD, qE, qF, qG, qH]
      repeat refine K ?_
      refine ⟨_, Sub.refl _, ?_⟩; simp [FinS, nilL, nilV, oneOr, -List.drop_one]
theorem nil_rows : ∀ (n : Nat), nilRs (List.replicate n [AV.nil]) (bodies .own (List.replicate n []))
  | 0 => by simp [bodies]
  | n + 1 => by
    have := nil_rows n
    simp only [List.replicate_succ, bodies, List.map_cons] at this ⊢
    exact (nilRs_cons _ _ _ _).2 ⟨by simp [inss], this⟩
theorem toInsSS_ok (l : List (List Ins)) (hl : 24 * l.length ≤ 2 ^ 47) (hb : ∀ b ∈ l, 40 * b.length ≤ 2 ^ 47) : CallOk Tryz.prog num 52 [.sl .bw 1 (bodies .bw l)] [] (.sl .own 1 (bodies .own l)) := by
  refine enter (m := m52) (f := 52) (fn := Tryz.f83) Tryz.func83 (by kernel_rfl) rfl c52 rfl (by simp [Tryz.f83]) (by simp [bnds, bnd, nf_sl, nf_int, nf_bool, nf_str, ints_bnd]) (fun _ _ h => by simp [preH, look] at h) ?_
  unfold m52
  simp only [go_sem, qA, qB, qC, qD, qE, qF, qG, qH]
  repeat refine K ?_
  refine loop_intro (ι := Nat) (fun i => .mk [(0, .sl .bw 1 (bodies .bw l)), (3, .ns 10 0 l.length), (4, .int .i64 i)] [(10, 1, bodies .own (l.take i ++ List.replicate (l.length - i) []))] 11) (fun i => i ≤ l.length) (fun i => l.length - i) 0 (by simp) ?_ ?_
  · refine Sub.shape [] id (by omega) ?_ ?_ ?_ ?_ <;> simp [ints_rep]
    right
    exact nil_rows _
  · intro i hi
    simp only [go_sem, qA, qB, qC, qD, qE, qF, qG, qH]
    refine branch_intro (fun hc => ?_) (fun hc => ?_)
    · simp only [decide_eq_true_eq] at hc
      have hl' : i < l.length := by omega
      have hm := fill_length l ([] : List Ins) i hi
      simp only [go_sem, qA, qB, qC, qD, qE, qF, qG, qH, bodies_getD .bw l i hl', hm]
      repeat refine K ?_
      refine CA [] (toInsS_ok (l.getD i []) (hb _ (getD_mem l i [] hl'))) ?_
      try simp only [go_sem, qA, qB, qC, qD, qE, qF, qG, qH]
      repeat refine K ?_
      have hs := fill_set l [] ([] : List Ins) i hl'
      try simp only [go_sem, qA, qB, qC, qD, qE, qF, qG, qH, bodies_getD .own _ i (hm ▸ hl'), hm, wrap_succ (i := i) (by omega)]
      repeat refine K ?_
      refine back_intro (i + 1) ?_ hl' (by omega)
      refine Sub.trans (Sub.foldAt 10 0 11 rfl (by simp [-gD] <;> omega) rfl (by decide) (by decide) rfl (by simp <;> omega)) ?_
      simp only [fS, qA, qC, bodies_set, hs]
      refine Sub.shape [] id (by omega) ?_ ?_ ?_ ?_ <;> simp [ints_rep]
    · simp only [decide_eq_false_iff_not] at hc
      have : i = l.length := by omega
      subst this
      simp only [go_sem, qA, qB, qC, qD, qE, qF, qG, qH]
      repeat refine K ?_
      refine ⟨_, Sub.refl _, ?_⟩; simp [FinS, nilL, nilV, oneOr, -List.drop_one]
theorem toProg_ok (p : Prog) (hc : 8 * p.caps.length ≤ 2 ^ 47) (hl : 24 * p.bods.length ≤ 2 ^ 47) (hb : ∀ b ∈ p.bods, 40 * b.length ≤ 2 ^ 47) : CallOk Tryz.prog num 28 [.agg (progC .bw p)] [] (.agg (progC .own p)) := by
  refine enter (m := m28) (f := 28) (fn := Tryz.f28) Tryz.func28 (by kernel_rfl) rfl c28 rfl (by simp [Tryz.f28]) (by simp [bnds, bnd, nf_sl, nf_int, nf_bool, nf_str, ints_bnd]) (fun _ _ h => by simp [preH, look] at h) ?_
  unfold m28
  simp only [go_sem, qA, qB, qC, qD, qE, qF, qG, qH]
  repeat refine K ?_
  refine CA [] (toIntS_ok p.caps hc) ?_
  try simp only [go_sem, qA, qB, qC, qD, qE, qF, qG, qH]
  repeat refine K ?_
  refine CA [] (toInsSS_ok p.bods hl hb) ?_
  try simp only [go_sem, qA, qB, qC, qD, qE, qF, qG, qH]
  repeat refine K ?_
  refine ⟨_, Sub.refl _, FinS_one ?_⟩; simp [-List.drop_one]
theorem eqIns_ok (x y : Ins) : CallOk Tryz.prog num 90 [.agg (insC x), .agg (insC y)] [] (.bool (decide (x = y))) := by
  refine enter (m := m90) (f := 90) (fn := Tryz.f226) Tryz.func226 (by kernel_rfl) rfl c90 rfl (by simp [Tryz.f226]) (by simp [bnds, bnd, nf_sl, nf_int, nf_bool, nf_str, ints_bnd]) (fun _ _ h => by simp [preH, look] at h) ?_
  unfold m90
  obtain ⟨a, b, c, d, e⟩ := x
  obtain ⟨a', b', c', d', e'⟩ := y
  repeat' (first
    | (simp only [go_sem, qA, qB, qC, qD, qE, qF, qG, qH])
    | (refine branch_intro (fun hc => ?_) (fun hc => ?_) <;> ((try simp only [Bool.not_eq_true', Bool.not_eq_false', ne_eq, Bool.not_eq_true, Bool.not_eq_false] at hc) <;> (try simp only [hc])))
    | (refine maybe_intro (fun hc => ?_) (fun hc => ?_) <;> ((try simp only [Bool.not_eq_true', Bool.not_eq_false', ne_eq, Bool.not_eq_true, Bool.not_eq_false] at hc) <;> (try simp only [hc])))
    | (refine dmaybe_intro (fun hc => ?_) (fun hc => ?_) <;> ((try simp only [Bool.not_eq_true', Bool.not_eq_false', ne_eq, Bool.not_eq_true, Bool.not_eq_false] at hc) <;> (try simp only [hc])))
    | (refine ⟨by first | omega | (simp; done), ?_⟩)
    | fail)
  all_goals (refine ⟨_, Sub.refl _, ?_⟩; simp [FinS, nilL, nilV, oneOr, -List.drop_one])
  all_goals (try (simp_all; done))
theorem eqInsS_ok (xs ys : List Ins) (hx : xs.length ≤ 2 ^ 47) : CallOk Tryz.prog num 75 [.sl .bw 5 (inss xs), .sl .bw 5 (inss ys)] [] (.bool (decide (xs = ys))) := by
  refine enter (m := m75) (f := 75) (fn := Tryz.f164) Tryz.func164 (by kernel_rfl) rfl c75 rfl (by simp [Tryz.f164]) (by simp [bnds, bnd, nf_sl, nf_int, nf_bool, nf_str, ints_bnd]) (fun _ _ h => by simp [preH, look] at h) ?_
  unfold m75
  simp only [go_sem, qA, qB, qC, qD, qE, qF, qG, qH]
  repeat refine K ?_
  refine branch_intro (fun hc => ?_) (fun hc => ?_)
  · have hne : xs ≠ ys := fun he => by subst he; simp at hc
    simp only [go_sem, qA, qB, qC, qD, qE, qF, qG, qH]
    repeat refine K ?_
    refine ⟨_, Sub.refl _, ?_⟩; simp [FinS, nilL, nilV, oneOr, -List.drop_one]
    exact hne
  · have hl : xs.length = ys.length := by simp at hc; omega
    simp only [go_sem, qA, qB, qC, qD, qE, qF, qG, qH]
    repeat refine K ?_
    refine loop_intro (ι := Nat) (fun i => .mk [(0, .sl .bw 5 (inss xs)), (1, .sl .bw 5 (inss ys)), (5, .int .i64 i)] [] 10) (fun i => i ≤ xs.length ∧ xs.take i = ys.take i) (fun i => xs.length - i) 0 (by simp) ?_ ?_
    · refine Sub.shape [] id (by omega) ?_ ?_ ?_ ?_ <;> simp [ints_rep]
    · rintro i ⟨hi, hp⟩
      simp only [go_sem, qA, qB, qC, qD, qE, qF, qG, qH]
      repeat refine K ?_
      refine branch_intro (fun hc => ?_) (fun hc => ?_)
      · simp only [decide_eq_true_eq] at hc
        have hil : i < xs.length := by omega
        have hjl : i < ys.length := by omega
        simp only [go_sem, qA, qB, qC, qD, qE, qF, qG, qH, inss_getD xs i hil, inss_getD ys i hjl]
        repeat refine K ?_
        refine DA [] (eqIns_ok (xs.getD i default) (ys.getD i default)) ?_
        try simp only [go_sem, qA, qB, qC, qD, qE, qF, qG, qH]
        repeat refine K ?_
        by_cases he : xs.getD i default = ys.getD i default
        · simp only [go_sem, qA, qB, qC, qD, qE, qF, qG, qH, he, wrap_succ (i := i) (by omega)]
          repeat refine K ?_
          refine back_intro (i + 1) (Sub.shape [] id (by omega) ?_ ?_ ?_ ?_) ?_ ?_
          any_goals (first | omega | (simp [ints_rep]; done))
          refine ⟨hil, ?_⟩
          rw [List.take_succ_eq_append_getElem hil, List.take_succ_eq_append_getElem hjl, hp]
          have he' : xs[i] = ys[i] := by simpa [List.getD_eq_getElem?_getD, hil, hjl] using he
          rw [he']
        · simp only [go_sem, qA, qB, qC, qD, qE, qF, qG, qH, he]
          repeat refine K ?_
          refine ⟨_, Sub.refl _, ?_⟩; simp [FinS, nilL, nilV, oneOr, -List.drop_one]
          intro h
          subst h
          exact he rfl
      · simp only [decide_eq_false_iff_not] at hc
        have he : xs = ys := by
          have h1 : i = xs.length := by omega
          rw [h1, List.take_length, hl, List.take_length] at hp
          exact hp
        simp only [go_sem, qA, qB, qC, qD, qE, qF, qG, qH]
        repeat refine K ?_
        refine ⟨_, Sub.refl _, ?_⟩; simp [FinS, nilL, nilV, oneOr, -List.drop_one]
        exact he
theorem eqInsSS_ok (xs ys : List (List Ins)) (hx : xs.length ≤ 2 ^ 47) (hb : ∀ b ∈ xs, b.length ≤ 2 ^ 47) : CallOk Tryz.prog num 53 [.sl .bw 1 (bodies .bw xs), .sl .bw 1 (bodies .bw ys)] [] (.bool (decide (xs = ys))) := by
  refine enter (m := m53) (f := 53) (fn := Tryz.f86) Tryz.func86 (by kernel_rfl) rfl c53 rfl (by simp [Tryz.f86]) (by simp [bnds, bnd, nf_sl, nf_int, nf_bool, nf_str, ints_bnd]) (fun _ _ h => by simp [preH, look] at h) ?_
  unfold m53
  simp only [go_sem, qA, qB, qC, qD, qE, qF, qG, qH]
  repeat refine K ?_
  refine branch_intro (fun hc => ?_) (fun hc => ?_)
  · have hne : xs ≠ ys := fun he => by subst he; simp at hc
    simp only [go_sem, qA, qB, qC, qD, qE, qF, qG, qH]
    repeat refine K ?_
    refine ⟨_, Sub.refl _, ?_⟩; simp [FinS, nilL, nilV, oneOr, -List.drop_one]
    exact hne
  · have hl : xs.length = ys.length := by simp at hc; omega
    simp only [go_sem, qA, qB, qC, qD, qE, qF, qG, qH]
    repeat refine K ?_
    refine loop_intro (ι := Nat) (fun i => .mk [(0, .sl .bw 1 (bodies .bw xs)), (1, .sl .bw 1 (bodies .bw ys)), (5, .int .i64 i)] [] 10) (fun i => i ≤ xs.length ∧ xs.take i = ys.take i) (fun i => xs.length - i) 0 (by simp) ?_ ?_
    · refine Sub.shape [] id (by omega) ?_ ?_ ?_ ?_ <;> simp [ints_rep]
    · rintro i ⟨hi, hp⟩
      simp only [go_sem, qA, qB, qC, qD, qE, qF, qG, qH]
      repeat refine K ?_
      refine branch_intro (fun hc => ?_) (fun hc => ?_)
      · simp only [decide_eq_true_eq] at hc
        have hil : i < xs.length := by omega
        have hjl : i < ys.length := by omega
        simp only [go_sem, qA, qB, qC, qD, qE, qF, qG, qH, bodies_getD .bw xs i hil, bodies_getD .bw ys i hjl]
        repeat refine K ?_
        refine DA [] (eqInsS_ok (xs.getD i []) (ys.getD i []) (hb _ (getD_mem xs i [] hil))) ?_
        try simp only [go_sem, qA, qB, qC, qD, qE, qF, qG, qH]
        repeat refine K ?_
        by_cases he : xs.getD i [] = ys.getD i []
        · simp only [go_sem, qA, qB, qC, qD, qE, qF, qG, qH, he, wrap_succ (i := i) (by omega)]
          repeat refine K ?_
          refine back_intro (i + 1) (Sub.shape [] id (by omega) ?_ ?_ ?_ ?_) ?_ ?_
          any_goals (first | omega | (simp [ints_rep]; done))
          refine ⟨hil, ?_⟩
          rw [List.take_succ_eq_append_getElem hil, List.take_succ_eq_append_getElem hjl, hp]
          have he' : xs[i] = ys[i] := by simpa [List.getD_eq_getElem?_getD, hil, hjl] using he
          rw [he']
        · simp only [go_sem, qA, qB, qC, qD, qE, qF, qG, qH, he]
          repeat refine K ?_
          refine ⟨_, Sub.refl _, ?_⟩; simp [FinS, nilL, nilV, oneOr, -List.drop_one]
          intro h
          subst h
          exact he rfl
      · simp only [decide_eq_false_iff_not] at hc
        have he : xs = ys := by
          have h1 : i = xs.length := by omega
          rw [h1, List.take_length, hl, List.take_length] at hp
          exact hp
        simp only [go_sem, qA, qB, qC, qD, qE, qF, qG, qH]
        repeat refine K ?_
        refine ⟨_, Sub.refl _, ?_⟩; simp [FinS, nilL, nilV, oneOr, -List.drop_one]
        exact he
theorem eqProg_ok (p q : Prog) (h1 : p.caps.length ≤ 2 ^ 47) (h2 : p.bods.length ≤ 2 ^ 47) (h3 : ∀ b ∈ p.bods, b.length ≤ 2 ^ 47) : CallOk Tryz.prog num 30 [.agg (progC .bw p), .agg (progC .bw q)] [] (.bool (decide (p.caps = q.caps) && decide (p.bods = q.bods))) := by
  refine enter (m := m30) (f := 30) (fn := Tryz.f30) Tryz.func30 (by kernel_rfl) rfl c30 rfl (by simp [Tryz.f30]) (by simp [bnds, bnd, nf_sl, nf_int, nf_bool, nf_str, ints_bnd]) (fun _ _ h => by simp [preH, look] at h) ?_
  unfold m30
  simp only [go_sem, qA, qB, qC, qD, qE, qF, qG, qH]
  repeat refine K ?_
  refine CA [] (eqIntS_ok p.caps q.caps h1) ?_
  try simp only [go_sem, qA, qB, qC, qD, qE, qF, qG, qH]
  repeat refine K ?_
  refine branch_intro (fun hc => ?_) (fun hc => ?_)
  · simp only [go_sem, qA, qB, qC, qD, qE, qF, qG, qH]
    repeat refine K ?_
    refine ⟨_, Sub.refl _, ?_⟩; simp [FinS, nilL, nilV, oneOr, -List.drop_one]
    simp_all
  · simp only [go_sem, qA, qB, qC, qD, qE, qF, qG, qH]
    repeat refine K ?_
    refine CA [] (eqInsSS_ok p.bods q.bods h2 h3) ?_
    try simp only [go_sem, qA, qB, qC, qD, qE, qF, qG, qH]
    repeat refine K ?_
    refine branch_intro (fun hc2 => ?_) (fun hc2 => ?_)
    · simp only [go_sem, qA, qB, qC, qD, qE, qF, qG, qH]
      repeat refine K ?_
      refine ⟨_, Sub.refl _, ?_⟩; simp [FinS, nilL, nilV, oneOr, -List.drop_one]
      simp_all
    · simp only [go_sem, qA, qB, qC, qD, qE, qF, qG, qH]
      repeat refine K ?_
      refine ⟨_, Sub.refl _, ?_⟩; simp [FinS, nilL, nilV, oneOr, -List.drop_one]
      simp_all
def insMark (k : Int) : Ins := ⟨k, k + 1, k + 1 + 1, k + 1 + 1 + 1, k + 1 + 1 + 1 + 1⟩
def insMarks (k : Int) (n : Nat) : List Ins := (List.range n).map fun (i : Nat) => insMark (k + 5 * i)
@[simp] theorem insMarks_length (k : Int) (n : Nat) : (insMarks k n).length = n := by simp [insMarks]
@[simp] theorem insMarks_take (k : Int) (n : Nat) : (insMarks k n).take n = insMarks k n := List.take_of_length_le (by simp)
theorem insMarks_set (xs : List Ins) (k : Int) (i : Nat) (h : i < xs.length) : (insMarks k i ++ xs.drop i).set i (insMark (k + 5 * i)) = insMarks k (i + 1) ++ xs.drop (i + 1) := by
  rw [List.set_append_right _ _ (by simp), insMarks_length, Nat.sub_self, List.drop_eq_getElem_cons h, List.set_cons_zero]
  simp [insMarks, List.range_succ]
set_option maxHeartbeats 1000000 in
theorem markInsS_ok (xs : List Ins) (k : Int) (h0 : 0 ≤ k) (h1 : k + 5 * xs.length < 2 ^ 60) : CallOk Tryz.prog num 76 [.ns 0 0 xs.length, .int .i64 k] [(0, some (5, inss xs), some (5, inss (insMarks k xs.length)))] (.int .i64 (k + 5 * xs.length)) := by
  refine enter (m := m76) (f := 76) (fn := Tryz.f165) Tryz.func165 (by kernel_rfl) rfl c76 rfl (by simp [Tryz.f165]) (by simp [bnds, bnd, nf_sl, nf_int, nf_bool, nf_str, ints_bnd]) (by first | (simp [preH, hb_nil, hb_cons, ints_bnd]; done) | exact hb_cons _ _ _ _ ((hb_nil _).2 trivial) (by decide) (by simp [ints_bnd, bndr, bnds, bnd])) ?_
  unfold m76
  simp only [go_sem, qA, qB, qC, qD, qE, qF, qG, qH]
  repeat refine K ?_
  refine loop_intro (ι := Nat) (fun i => .mk [(0, .ns 0 0 xs.length), (1, .int .i64 (k + 5 * i)), (5, .int .i64 i)] [(0, 5, inss (insMarks k i ++ xs.drop i))] 10) (fun i => i ≤ xs.length) (fun i => xs.length - i) 0 (by omega) ?_ ?_
  · refine Sub.shape [] id (by omega) ?_ ?_ ?_ ?_ <;> simp [ints_rep]
    simp [insMarks]
  · intro i hi
    have hm : (insMarks k i ++ xs.drop i).length = xs.length := by simp; omega
    simp only [go_sem, qA, qB, qC, qD, qE, qF, qG, qH, hm]
    refine branch_intro (fun hc => ?_) (fun hc => ?_)
    · simp only [decide_eq_true_eq] at hc
      have hl : i < xs.length := by omega
      have gi : ∀ a b c d e, (inss ((insMarks k i ++ xs.drop i).set i ⟨a, b, c, d, e⟩)).getD i [] = [.int .i64 a, .int .i64 b, .int .i64 c, .int .i64 d, .int .i64 e] := fun a b c d e => by
        rw [inss_getD _ i (by rw [List.length_set, hm]; exact hl), getD_set_self _ _ _ _ (by rw [hm]; exact hl)]
      have q1 : IntKind.i64.wrap (k + 5 * (i : Int) + 1) = k + 5 * (i : Int) + 1 := wrap64 (by omega) (by omega)
      have q2 : IntKind.i64.wrap (k + 5 * (i : Int) + 1 + 1) = k + 5 * (i : Int) + 1 + 1 := wrap64 (by omega) (by omega)
      have q3 : IntKind.i64.wrap (k + 5 * (i : Int) + 1 + 1 + 1) = k + 5 * (i : Int) + 1 + 1 + 1 := wrap64 (by omega) (by omega)
      have q4 : IntKind.i64.wrap (k + 5 * (i : Int) + 1 + 1 + 1 + 1) = k + 5 * (i : Int) + 1 + 1 + 1 + 1 := wrap64 (by omega) (by omega)
      have q5 : IntKind.i64.wrap (k + 5 * (i : Int) + 1 + 1 + 1 + 1 + 1) = k + 5 * ((i + 1 : Nat) : Int) := by rw [wrap64 (by omega) (by omega)]; omega
      have hs := insMarks_set xs k i hl
      simp only [insMark] at hs
      simp only [go_sem, qA, qB, qC, qD, qE, qF, qG, qH, inss_getD (insMarks k i ++ xs.drop i) i (hm ▸ hl), hm, gi, List.length_set, q1, q2, q3, q4, q5, hs, wrap_succ (i := i) (by omega)]
      repeat refine K ?_
      refine back_intro (i + 1) (Sub.shape [] id (by omega) ?_ ?_ ?_ ?_) ?_ ?_
      any_goals (first | omega | (simp [ints_rep]; done))
    · simp only [decide_eq_false_iff_not] at hc
      have : i = xs.length := by omega
      subst this
      simp only [go_sem, qA, qB, qC, qD, qE, qF, qG, qH]
      repeat refine K ?_
      refine ⟨_, Sub.refl _, ?_⟩; simp [FinS, nilL, nilV, oneOr, -List.drop_one]
def tot : List (List Ins) → Nat
  | [] => 0
  | b :: l => b.length + tot l
theorem tot_app : ∀ (a b : List (List Ins)), tot (a ++ b) = tot a + tot b
  | [], b => by simp [tot]
  | x :: a, b => by simp [tot, tot_app a b]; omega
def bodMarks : Int → List (List Ins) → List (List Ins)
  | _, [] => []
  | k, b :: l => insMarks k b.length :: bodMarks (k + 5 * b.length) l
@[simp] theorem bodMarks_length : ∀ (k : Int) (l : List (List Ins)), (bodMarks k l).length = l.length
  | _, [] => rfl
  | k, b :: l => by simp [bodMarks, bodMarks_length]
theorem bodMarks_snoc : ∀ (k : Int) (a : List (List Ins)) (b : List Ins), bodMarks k (a ++ [b]) = bodMarks k a ++ [insMarks (k + 5 * tot a) b.length]
  | k, [], b => by simp [bodMarks, tot]
  | k, x :: a, b => by
    simp only [List.cons_append, bodMarks, bodMarks_snoc _ a b, tot]
    congr 4
    push_cast
    omega
theorem tot_take (l : List (List Ins)) (i : Nat) (h : i < l.length) : tot (l.take (i + 1)) = tot (l.take i) + (l.getD i []).length := by
  rw [take_snoc l [] i h, tot_app]
  simp [tot]
theorem tot_take_le (l : List (List Ins)) (i : Nat) : tot (l.take i) ≤ tot l := by
  have : tot l = tot (l.take i) + tot (l.drop i) := by rw [← tot_app, List.take_append_drop]
  omega
theorem bodMarks_set (l : List (List Ins)) (k : Int) (i : Nat) (h : i < l.length) : (bodMarks k (l.take i) ++ l.drop i).set i (insMarks (k + 5 * tot (l.take i)) (l.getD i []).length) = bodMarks k (l.take (i + 1)) ++ l.drop (i + 1) := by
  have hl : (bodMarks k (l.take i)).length = i := by simp; omega
  rw [List.set_append_right _ _ (by omega), hl, Nat.sub_self, List.drop_eq_getElem_cons h, List.set_cons_zero, take_snoc l [] i h, bodMarks_snoc]
  simp
theorem bodMarks_getD (l : List (List Ins)) (k : Int) (i : Nat) (h : i < l.length) : (bodMarks k (l.take i) ++ l.drop i).getD i [] = l.getD i [] := by
  have hl : (bodMarks k (l.take i)).length = i := by simp; omega
  rw [List.getD_eq_getElem?_getD, List.getElem?_append_right (by omega), hl]
  simp [List.getD_eq_getElem?_getD]
theorem markInsSS_ok (l : List (List Ins)) (k : Int) (h0 : 0 ≤ k) (h1 : k + 5 * tot l < 2 ^ 59) (h2 : l.length < 2 ^ 59) : CallOk Tryz.prog num 54 [.ns 0 0 l.length, .int .i64 k] [(0, some (1, bodies .own l), some (1, bodies .own (bodMarks k l)))] (.int .i64 (k + 5 * tot l)) := by
  refine enter (m := m54) (f := 54) (fn := Tryz.f87) Tryz.func87 (by kernel_rfl) rfl c54 rfl (by simp [Tryz.f87]) (by simp [bnds, bnd, nf_sl, nf_int, nf_bool, nf_str, ints_bnd]) (by first | (simp [preH, hb_nil, hb_cons, ints_bnd]; done) | exact hb_cons _ _ _ _ ((hb_nil _).2 trivial) (by decide) (by simp [ints_bnd, bndr, bnds, bnd])) ?_
  unfold m54
  simp only [go_sem, qA, qB, qC, qD, qE, qF, qG, qH]
  repeat refine K ?_
  refine loop_intro (ι := Nat) (fun i => .mk [(0, .ns 0 0 l.length), (1, .int .i64 (k + 5 * tot (l.take i))), (5, .int .i64 i)] [(0, 1, bodies .own (bodMarks k (l.take i) ++ l.drop i))] 10) (fun i => i ≤ l.length) (fun i => l.length - i) 0 (by omega) ?_ ?_
  · refine Sub.shape [] id (by omega) ?_ ?_ ?_ ?_ <;> simp [ints_rep]
    all_goals simp [bodMarks, tot]
  · intro i hi
    have hm : (bodMarks k (l.take i) ++ l.drop i).length = l.length := by simp; omega
    simp only [go_sem, qA, qB, qC, qD, qE, qF, qG, qH, hm]
    refine branch_intro (fun hc => ?_) (fun hc => ?_)
    · simp only [decide_eq_true_eq] at hc
      have hl' : i < l.length := by omega
      have ht := tot_take l i hl'
      have htl := tot_take_le l (i + 1)
      have gb : (bodies .own (bodMarks k (l.take i) ++ l.drop i)).getD i [] = [.sl .own 5 (inss (l.getD i []))] := by
        rw [bodies_getD .own _ i (hm ▸ hl'), bodMarks_getD l k i hl']
      simp only [go_sem, qA, qB, qC, qD, qE, qF, qG, qH, gb, hm, wrap_succ (i := i) (by omega)]
      repeat refine K ?_
      refine CA [(0, 10)] (markInsS_ok (l.getD i []) (k + 5 * tot (l.take i)) (by omega) (by omega)) ?_
      try simp only [go_sem, qA, qB, qC, qD, qE, qF, qG, qH]
      repeat refine K ?_
      have e5 : k + 5 * (tot (l.take i) : Int) + 5 * ((l.getD i []).length : Int) = k + 5 * (tot (l.take (i + 1)) : Int) := by omega
      try simp only [go_sem, qA, qB, qC, qD, qE, qF, qG, qH, e5, hm, wrap_succ (i := i) (by omega)]
      repeat refine K ?_
      refine back_intro (i + 1) ?_ hl' (by omega)
      refine Sub.trans (Sub.foldAt 0 0 10 rfl (by simp [-gD] <;> omega) rfl (by decide) (by decide) rfl (by simp <;> omega)) ?_
      simp only [fS, qA, qC, bodies_set, insMarks_length, bodMarks_set l k i hl']
      refine Sub.shape [] id (by omega) ?_ ?_ ?_ ?_ <;> simp [ints_rep]
    · simp only [decide_eq_false_iff_not] at hc
      have he : l.take i = l := List.take_of_length_le (by omega)
      have hd : l.drop i = [] := List.drop_eq_nil_of_le (by omega)
      simp only [go_sem, qA, qB, qC, qD, qE, qF, qG, qH, he, hd]
      repeat refine K ?_
      refine ⟨_, Sub.refl _, ?_⟩; simp [FinS, nilL, nilV, oneOr, -List.drop_one]
theorem markProg_ok (p : Prog) (k : Int) (h0 : 0 ≤ k) (h1 : k + p.caps.length + 5 * tot p.bods < 2 ^ 59) (h2 : p.bods.length < 2 ^ 59) : CallOk Tryz.prog num 31 [.agg [.ns 0 0 p.caps.length, .ns 1 0 p.bods.length], .int .i64 k]
    [(0, some (1, ints p.caps), some (1, ints (marks k p.caps.length))), (1, some (1, bodies .own p.bods), some (1, bodies .own (bodMarks (k + p.caps.length) p.bods)))] (.int .i64 (k + p.caps.length + 5 * tot p.bods)) := by
  refine enter (m := m31) (f := 31) (fn := Tryz.f31) Tryz.func31 (by kernel_rfl) rfl c31 rfl (by simp [Tryz.f31]) (by simp [bnds, bnd, nf_sl, nf_int, nf_bool, nf_str, ints_bnd]) (by refine hb_cons _ _ _ _ (hb_cons _ _ _ _ ((hb_nil _).2 trivial) (by decide) ?_) (by decide) ?_ <;> simp [ints_bnd]) ?_
  unfold m31
  simp only [go_sem, qA, qB, qC, qD, qE, qF, qG, qH]
  repeat refine K ?_
  refine CA [(0, 0)] (markIntS_ok p.caps k h0 (by omega)) ?_
  try simp only [go_sem, qA, qB, qC, qD, qE, qF, qG, qH]
  repeat refine K ?_
  refine CA [(0, 1)] (markInsSS_ok p.bods (k + p.caps.length) (by omega) (by omega) h2) ?_
  try simp only [go_sem, qA, qB, qC, qD, qE, qF, qG, qH]
  repeat refine K ?_
  refine ⟨_, Sub.refl _, ?_⟩; simp [FinS, nilL, nilV, oneOr, -List.drop_one]

end Go.Sep
