/- Contracts of functions. -/
import Derived.Test.YtjbknbgdfhihcaaGreatUA0
import Derived.Test.YtjbknbgdfhihcaaGreatUK1
import Derived.Test.YtjbknbgdfhihcaaGreatUt1
namespace Go.Sep
open Go.Proofs
set_option linter.unusedSimpArgs false
set_option linter.unusedVariables false
set_option maxRecDepth 100000
open Nat renaming reduceAdd → qA, reduceMul → qB, reduceEqDiff → qC, reduceBEq → qD
open Int renaming reduceToNat → qE, reduceEq → qF, reduceLT → qG, reduceLE → qH
open List renaming getD_eq_getElem?_getD → gD
def m172 : MFn := ⟨30, [.t 4], .seq (xr [xb 2 0, xo 4 (.mv (xi 0))]) (.seq (xr [xa 5 0 2, xl 6 5, xv 7 1, xc2 8 221 (.t 6) (.t 7), xv 1 8]) (.seq (.seq (xr [xv 9 1, xo 10 (.bin .lss (.t 9) (xi 0))]) (.cond 10 (.seq (xr [xo 4 (.mv (.c (.int .i64 (-1))))]) (.ret)) (.skip))) (.seq (xr [xa 11 1 2, xl 12 11, xv 13 1, xc2 14 222 (.t 12) (.t 13), xv 1 14]) (.seq (.seq (xr [xv 15 1, xo 16 (.bin .lss (.t 15) (xi 0))]) (.cond 16 (.seq (xr [xo 4 (.mv (.c (.int .i64 (-1))))]) (.ret)) (.skip))) (.seq (xr [xa 17 2 2, xm 18 1 17, xv 19 1, xc2 20 223 (.t 18) (.t 19), xv 1 20]) (.seq (.seq (xr [xv 21 1, xo 22 (.bin .lss (.t 21) (xi 0))]) (.cond 22 (.seq (xr [xo 4 (.mv (.c (.int .i64 (-1))))]) (.ret)) (.skip))) (.seq (xr [xa 23 3 2, xl 24 23, xv 25 1, xc2 26 117 (.t 24) (.t 25), xv 1 26]) (.seq (.seq (xr [xv 27 1, xo 28 (.bin .lss (.t 27) (xi 0))]) (.cond 28 (.seq (xr [xo 4 (.mv (.c (.int .i64 (-1))))]) (.ret)) (.skip))) (.seq (xr [xv 29 1, xv 4 29]) (.ret))))))))))⟩
def m173 : MFn := ⟨21, [.cell 2 4 true], .seq (xr [xb 1 0, xo 2 (.alloc [.nil, .nil, .nil, .nil])]) (.seq (xr [xo 3 (.alloc [.nil, .nil, .nil, .nil])]) (.seq (xr [xa 4 0 1, xl 5 4, xc1 6 226 (.t 5), xa 7 0 3, ⟨none, .store 1 (.t 7) (.t 6), none⟩]) (.seq (xr [xa 8 1 1, xl 9 8, xc1 10 227 (.t 9), xa 11 1 3, ⟨none, .store 1 (.t 11) (.t 10), none⟩]) (.seq (xr [xa 12 2 1, xm 13 1 12, xc1 14 228 (.t 13), xa 15 2 3, ⟨none, .store 1 (.t 15) (.t 14), none⟩]) (.seq (xr [xa 16 3 1, xl 17 16, xc1 18 116 (.t 17), xa 19 3 3, ⟨none, .store 1 (.t 19) (.t 18), none⟩]) (.seq (xr [xm 20 4 3, ⟨none, .store 4 (.t 2) (.t 20), none⟩]) (.ret)))))))⟩
def m221 : MFn := ⟨27, [.t 4], .seq (xr [xo 4 (.mv (xi 0))]) (.seq (xr [xv 6 1, xv 7 0, xe 8 7, xo 9 (.bin .sub (.t 6) (.t 8)), xv 1 9]) (.seq (.seq (xr [xv 10 1, xo 11 (.bin .lss (.t 10) (xi 0))]) (.cond 11 (.seq (xr [xo 4 (.mv (.c (.int .i64 (-1))))]) (.ret)) (.skip))) (.seq (.seq (xr [xo 5 (.mv (xi 0))]) (.blk 0 (.loop (.seq (.seq (xr [xv 12 5, xv 13 0, xe 14 13, xo 15 (.bin .lss (.t 12) (.t 14))]) (.cond 15 (.skip) (.exit 0))) (.seq (.blk 1 (.seq (xr [xv 18 0, xv 19 5, xo 20 (.iad 1 (.t 18) (.t 19)), xl 21 20, xv 22 1, xc2 23 274 (.t 21) (.t 22), xv 1 23]) (.seq (xr [xv 24 1, xo 25 (.bin .lss (.t 24) (xi 0))]) (.cond 25 (.seq (xr [xo 4 (.mv (.c (.int .i64 (-1))))]) (.ret)) (.skip))))) (xr [xv 16 5, xo 17 (.bin .add (.t 16) (xi 1)), xv 5 17])))))) (.seq (xr [xv 26 1, xv 4 26]) (.ret)))))⟩
def m222 : MFn := ⟨27, [.t 4], .seq (xr [xo 4 (.mv (xi 0))]) (.seq (xr [xv 6 1, xv 7 0, xe 8 7, xo 9 (.bin .sub (.t 6) (.t 8)), xv 1 9]) (.seq (.seq (xr [xv 10 1, xo 11 (.bin .lss (.t 10) (xi 0))]) (.cond 11 (.seq (xr [xo 4 (.mv (.c (.int .i64 (-1))))]) (.ret)) (.skip))) (.seq (.seq (xr [xo 5 (.mv (xi 0))]) (.blk 0 (.loop (.seq (.seq (xr [xv 12 5, xv 13 0, xe 14 13, xo 15 (.bin .lss (.t 12) (.t 14))]) (.cond 15 (.skip) (.exit 0))) (.seq (.blk 1 (.seq (xr [xv 18 0, xv 19 5, xo 20 (.iad 4 (.t 18) (.t 19)), xm 21 4 20, xv 22 1, xc2 23 275 (.t 21) (.t 22), xv 1 23]) (.seq (xr [xv 24 1, xo 25 (.bin .lss (.t 24) (xi 0))]) (.cond 25 (.seq (xr [xo 4 (.mv (.c (.int .i64 (-1))))]) (.ret)) (.skip))))) (xr [xv 16 5, xo 17 (.bin .add (.t 16) (xi 1)), xv 5 17])))))) (.seq (xr [xv 26 1, xv 4 26]) (.ret)))))⟩
def m223 : MFn := ⟨12, [.t 4], .seq (xr [xb 2 0, xo 4 (.mv (xi 0))]) (.seq (xr [xa 5 0 2, xl 6 5, xv 7 1, xc2 8 276 (.t 6) (.t 7), xv 1 8]) (.seq (.seq (xr [xv 9 1, xo 10 (.bin .lss (.t 9) (xi 0))]) (.cond 10 (.seq (xr [xo 4 (.mv (.c (.int .i64 (-1))))]) (.ret)) (.skip))) (.seq (xr [xv 11 1, xv 4 11]) (.ret))))⟩
def m226 : MFn := ⟨23, [.t 2], .seq (xr [xo 2 (.mv (.c (.nil)))]) (.seq (xr [xv 5 0, xe 6 5, xo 7 (.mkS [.nil] 24 (.t 6) (.t 6)), xv 3 7]) (.seq (.seq (xr [xo 4 (.mv (xi 0))]) (.blk 0 (.loop (.seq (.seq (xr [xv 8 4, xv 9 0, xe 10 9, xo 11 (.bin .lss (.t 8) (.t 10))]) (.cond 11 (.skip) (.exit 0))) (.seq (.blk 1 (xr [xv 14 3, xv 15 4, xv 16 0, xv 17 4, xo 18 (.iad 1 (.t 16) (.t 17)), xl 19 18, xc1 20 277 (.t 19), xo 21 (.iad 1 (.t 14) (.t 15)), ⟨none, .store 1 (.t 21) (.t 20), none⟩])) (xr [xv 12 4, xo 13 (.bin .add (.t 12) (xi 1)), xv 4 13])))))) (.seq (xr [xv 22 3, xv 2 22]) (.ret))))⟩
def m227 : MFn := ⟨23, [.t 2], .seq (xr [xo 2 (.mv (.c (.nil)))]) (.seq (xr [xv 5 0, xe 6 5, xo 7 (.mkS [.int .i64 0, .nil, .nil, .int .i64 0] 64 (.t 6) (.t 6)), xv 3 7]) (.seq (.seq (xr [xo 4 (.mv (xi 0))]) (.blk 0 (.loop (.seq (.seq (xr [xv 8 4, xv 9 0, xe 10 9, xo 11 (.bin .lss (.t 8) (.t 10))]) (.cond 11 (.skip) (.exit 0))) (.seq (.blk 1 (xr [xv 14 3, xv 15 4, xv 16 0, xv 17 4, xo 18 (.iad 4 (.t 16) (.t 17)), xm 19 4 18, xc1 20 278 (.t 19), xo 21 (.iad 4 (.t 14) (.t 15)), ⟨none, .store 4 (.t 21) (.t 20), none⟩])) (xr [xv 12 4, xo 13 (.bin .add (.t 12) (xi 1)), xv 4 13])))))) (.seq (xr [xv 22 3, xv 2 22]) (.ret))))⟩
def m228 : MFn := ⟨9, [.cell 2 1 true], .seq (xr [xb 1 0, xo 2 (.alloc [.nil])]) (.seq (xr [xo 3 (.alloc [.nil])]) (.seq (xr [xa 4 0 1, xl 5 4, xc1 6 279 (.t 5), xa 7 0 3, ⟨none, .store 1 (.t 7) (.t 6), none⟩]) (.seq (xr [xm 8 1 3, ⟨none, .store 1 (.t 2) (.t 8), none⟩]) (.ret))))⟩
def m274 : MFn := ⟨12, [.t 4], .seq (xr [xo 4 (.mv (xi 0))]) (.seq (xr [xv 5 1, xv 6 0, xe 7 6, xo 8 (.bin .sub (.t 5) (.t 7)), xv 1 8]) (.seq (.seq (xr [xv 9 1, xo 10 (.bin .lss (.t 9) (xi 0))]) (.cond 10 (.seq (xr [xo 4 (.mv (.c (.int .i64 (-1))))]) (.ret)) (.skip))) (.seq (xr [xv 11 1, xv 4 11]) (.ret))))⟩
def m275 : MFn := ⟨18, [.t 4], .seq (xr [xb 2 0, xo 4 (.mv (xi 0))]) (.seq (xr [xa 5 1 2, xl 6 5, xv 7 1, xc2 8 35 (.t 6) (.t 7), xv 1 8]) (.seq (.seq (xr [xv 9 1, xo 10 (.bin .lss (.t 9) (xi 0))]) (.cond 10 (.seq (xr [xo 4 (.mv (.c (.int .i64 (-1))))]) (.ret)) (.skip))) (.seq (xr [xa 11 2 2, xl 12 11, xv 13 1, xc2 14 35 (.t 12) (.t 13), xv 1 14]) (.seq (.seq (xr [xv 15 1, xo 16 (.bin .lss (.t 15) (xi 0))]) (.cond 16 (.seq (xr [xo 4 (.mv (.c (.int .i64 (-1))))]) (.ret)) (.skip))) (.seq (xr [xv 17 1, xv 4 17]) (.ret))))))⟩
def m276 : MFn := ⟨27, [.t 4], .seq (xr [xo 4 (.mv (xi 0))]) (.seq (xr [xv 6 1, xv 7 0, xe 8 7, xo 9 (.bin .sub (.t 6) (.t 8)), xv 1 9]) (.seq (.seq (xr [xv 10 1, xo 11 (.bin .lss (.t 10) (xi 0))]) (.cond 11 (.seq (xr [xo 4 (.mv (.c (.int .i64 (-1))))]) (.ret)) (.skip))) (.seq (.seq (xr [xo 5 (.mv (xi 0))]) (.blk 0 (.loop (.seq (.seq (xr [xv 12 5, xv 13 0, xe 14 13, xo 15 (.bin .lss (.t 12) (.t 14))]) (.cond 15 (.skip) (.exit 0))) (.seq (.blk 1 (.seq (xr [xv 18 0, xv 19 5, xo 20 (.iad 1 (.t 18) (.t 19)), xl 21 20, xv 22 1, xc2 23 321 (.t 21) (.t 22), xv 1 23]) (.seq (xr [xv 24 1, xo 25 (.bin .lss (.t 24) (xi 0))]) (.cond 25 (.seq (xr [xo 4 (.mv (.c (.int .i64 (-1))))]) (.ret)) (.skip))))) (xr [xv 16 5, xo 17 (.bin .add (.t 16) (xi 1)), xv 5 17])))))) (.seq (xr [xv 26 1, xv 4 26]) (.ret)))))⟩
def m277 : MFn := ⟨23, [.t 2], .seq (xr [xo 2 (.mv (.c (.nil)))]) (.seq (xr [xv 5 0, xe 6 5, xo 7 (.mkS [xz, xz, xz, xz, xz] 40 (.t 6) (.t 6)), xv 3 7]) (.seq (.seq (xr [xo 4 (.mv (xi 0))]) (.blk 0 (.loop (.seq (.seq (xr [xv 8 4, xv 9 0, xe 10 9, xo 11 (.bin .lss (.t 8) (.t 10))]) (.cond 11 (.skip) (.exit 0))) (.seq (.blk 1 (xr [xv 14 3, xv 15 4, xv 16 0, xv 17 4, xo 18 (.iad 5 (.t 16) (.t 17)), xm 19 5 18, xc1 20 322 (.t 19), xo 21 (.iad 5 (.t 14) (.t 15)), ⟨none, .store 5 (.t 21) (.t 20), none⟩])) (xr [xv 12 4, xo 13 (.bin .add (.t 12) (xi 1)), xv 4 13])))))) (.seq (xr [xv 22 3, xv 2 22]) (.ret))))⟩
def m278 : MFn := ⟨19, [.cell 2 4 true], .seq (xr [xb 1 0, xo 2 (.alloc [.int .i64 0, .nil, .nil, .int .i64 0])]) (.seq (xr [xo 3 (.alloc [.int .i64 0, .nil, .nil, .int .i64 0])]) (.seq (xr [xa 4 0 1, xl 5 4, xa 6 0 3, ⟨none, .store 1 (.t 6) (.t 5), none⟩]) (.seq (xr [xa 7 1 1, xl 8 7, xc1 9 5 (.t 8), xa 10 1 3, ⟨none, .store 1 (.t 10) (.t 9), none⟩]) (.seq (xr [xa 11 2 1, xl 12 11, xc1 13 5 (.t 12), xa 14 2 3, ⟨none, .store 1 (.t 14) (.t 13), none⟩]) (.seq (xr [xa 15 3 1, xl 16 15, xa 17 3 3, ⟨none, .store 1 (.t 17) (.t 16), none⟩]) (.seq (xr [xm 18 4 3, ⟨none, .store 4 (.t 2) (.t 18), none⟩]) (.ret)))))))⟩
def m279 : MFn := ⟨23, [.t 2], .seq (xr [xo 2 (.mv (.c (.nil)))]) (.seq (xr [xv 5 0, xe 6 5, xo 7 (.mkS [.nil] 24 (.t 6) (.t 6)), xv 3 7]) (.seq (.seq (xr [xo 4 (.mv (xi 0))]) (.blk 0 (.loop (.seq (.seq (xr [xv 8 4, xv 9 0, xe 10 9, xo 11 (.bin .lss (.t 8) (.t 10))]) (.cond 11 (.skip) (.exit 0))) (.seq (.blk 1 (xr [xv 14 3, xv 15 4, xv 16 0, xv 17 4, xo 18 (.iad 1 (.t 16) (.t 17)), xl 19 18, xc1 20 323 (.t 19), xo 21 (.iad 1 (.t 14) (.t 15)), ⟨none, .store 1 (.t 21) (.t 20), none⟩])) (xr [xv 12 4, xo 13 (.bin .add (.t 12) (xi 1)), xv 4 13])))))) (.seq (xr [xv 22 3, xv 2 22]) (.ret))))⟩
def m321 : MFn := ⟨27, [.t 4], .seq (xr [xo 4 (.mv (xi 0))]) (.seq (xr [xv 6 1, xv 7 0, xe 8 7, xo 9 (.bin .sub (.t 6) (.t 8)), xv 1 9]) (.seq (.seq (xr [xv 10 1, xo 11 (.bin .lss (.t 10) (xi 0))]) (.cond 11 (.seq (xr [xo 4 (.mv (.c (.int .i64 (-1))))]) (.ret)) (.skip))) (.seq (.seq (xr [xo 5 (.mv (xi 0))]) (.blk 0 (.loop (.seq (.seq (xr [xv 12 5, xv 13 0, xe 14 13, xo 15 (.bin .lss (.t 12) (.t 14))]) (.cond 15 (.skip) (.exit 0))) (.seq (.blk 1 (.seq (xr [xv 18 0, xv 19 5, xo 20 (.iad 2 (.t 18) (.t 19)), xm 21 2 20, xv 22 1, xc2 23 341 (.t 21) (.t 22), xv 1 23]) (.seq (xr [xv 24 1, xo 25 (.bin .lss (.t 24) (xi 0))]) (.cond 25 (.seq (xr [xo 4 (.mv (.c (.int .i64 (-1))))]) (.ret)) (.skip))))) (xr [xv 16 5, xo 17 (.bin .add (.t 16) (xi 1)), xv 5 17])))))) (.seq (xr [xv 26 1, xv 4 26]) (.ret)))))⟩
def m322 : MFn := ⟨20, [.cell 2 5 true], .seq (xr [xb 1 0, xo 2 (.alloc [xz, xz, xz, xz, xz])]) (.seq (xr [xo 3 (.alloc [xz, xz, xz, xz, xz])]) (.seq (xr [xa 4 0 1, xl 5 4, xa 6 0 3, ⟨none, .store 1 (.t 6) (.t 5), none⟩]) (.seq (xr [xa 7 1 1, xl 8 7, xa 9 1 3, ⟨none, .store 1 (.t 9) (.t 8), none⟩]) (.seq (xr [xa 10 2 1, xl 11 10, xa 12 2 3, ⟨none, .store 1 (.t 12) (.t 11), none⟩]) (.seq (xr [xa 13 3 1, xl 14 13, xa 15 3 3, ⟨none, .store 1 (.t 15) (.t 14), none⟩]) (.seq (xr [xa 16 4 1, xl 17 16, xa 18 4 3, ⟨none, .store 1 (.t 18) (.t 17), none⟩]) (.seq (xr [xm 19 5 3, ⟨none, .store 5 (.t 2) (.t 19), none⟩]) (.ret))))))))⟩
def m323 : MFn := ⟨23, [.t 2], .seq (xr [xo 2 (.mv (.c (.nil)))]) (.seq (xr [xv 5 0, xe 6 5, xo 7 (.mkS [.int .i64 0, .nil] 32 (.t 6) (.t 6)), xv 3 7]) (.seq (.seq (xr [xo 4 (.mv (xi 0))]) (.blk 0 (.loop (.seq (.seq (xr [xv 8 4, xv 9 0, xe 10 9, xo 11 (.bin .lss (.t 8) (.t 10))]) (.cond 11 (.skip) (.exit 0))) (.seq (.blk 1 (xr [xv 14 3, xv 15 4, xv 16 0, xv 17 4, xo 18 (.iad 2 (.t 16) (.t 17)), xm 19 2 18, xc1 20 342 (.t 19), xo 21 (.iad 2 (.t 14) (.t 15)), ⟨none, .store 2 (.t 21) (.t 20), none⟩])) (xr [xv 12 4, xo 13 (.bin .add (.t 12) (xi 1)), xv 4 13])))))) (.seq (xr [xv 22 3, xv 2 22]) (.ret))))⟩
def m341 : MFn := ⟨12, [.t 4], .seq (xr [xb 2 0, xo 4 (.mv (xi 0))]) (.seq (xr [xa 5 1 2, xl 6 5, xv 7 1, xc2 8 35 (.t 6) (.t 7), xv 1 8]) (.seq (.seq (xr [xv 9 1, xo 10 (.bin .lss (.t 9) (xi 0))]) (.cond 10 (.seq (xr [xo 4 (.mv (.c (.int .i64 (-1))))]) (.ret)) (.skip))) (.seq (xr [xv 11 1, xv 4 11]) (.ret))))⟩
def m342 : MFn := ⟨12, [.cell 2 2 true], .seq (xr [xb 1 0, xo 2 (.alloc [.int .i64 0, .nil])]) (.seq (xr [xo 3 (.alloc [.int .i64 0, .nil])]) (.seq (xr [xa 4 0 1, xl 5 4, xa 6 0 3, ⟨none, .store 1 (.t 6) (.t 5), none⟩]) (.seq (xr [xa 7 1 1, xl 8 7, xc1 9 5 (.t 8), xa 10 1 3, ⟨none, .store 1 (.t 10) (.t 9), none⟩]) (.seq (xr [xm 11 2 3, ⟨none, .store 2 (.t 2) (.t 11), none⟩]) (.ret)))))⟩
theorem toStep_ok (x : Step) : CallOk Tryz.prog num 322 [.agg (stepC x)] [] (.agg (stepC x)) := by
 refine EN m322 Tryz.func197 ?_
 unfold m322
 simp only [go_sem, qA, qB, qC, qD, qE, qF, qG, qH]
 repeat refine K ?_
 refine ⟨_, Sub.refl _, qAe ?_⟩; simp [-List.drop_one]
theorem toStepS_ok (l : List Step) (hl : 64 * l.length ≤ 2 ^ 47) : CallOk Tryz.prog num 277 [.sl .bw 5 (steps l)] [] (.sl .own 5 (steps l)) := by
 refine EN m277 Tryz.func129 ?_
 unfold m277
 simp only [go_sem, qA, qB, qC, qD, qE, qF, qG, qH]
 repeat refine K ?_
 refine qA6 (ι := Nat) (fun i => .mk [(0, .sl .bw 5 (steps l)), (3, .ns 10 0 l.length), (4, .int .i64 i)] [(10, 5, steps (l.take i ++ List.replicate (l.length - i) ⟨0, 0, 0, 0, 0⟩))] 11) (fun i => i ≤ l.length) (fun i => l.length - i) 0 (by simp) ?_ ?_
 ·refine Sub.shape [] id (by omega) ?_ ?_ ?_ ?_ <;> simp [qA2]
  left
  exact steps_rep _ _ _ _ _ _
 ·intro i hi
  simp only [go_sem, qA, qB, qC, qD, qE, qF, qG, qH]
  refine qA1 (fun hc => ?_) (fun hc => ?_)
  ·simp only [decide_eq_true_eq] at hc
   have hl' : i < l.length := by omega
   have hm := qCt l (⟨0, 0, 0, 0, 0⟩ : Step) i hi
   simp only [go_sem, qA, qB, qC, qD, qE, qF, qG, qH, qBg l i hl', hm]
   repeat refine K ?_
   refine CA [] (toStep_ok (l.getD i default) ) ?_
   try simp only [go_sem, qA, qB, qC, qD, qE, qF, qG, qH]
   repeat refine K ?_
   have hs := fill_set l default (⟨0, 0, 0, 0, 0⟩ : Step) i hl'
   have hs' : (l.take i ++ List.replicate (l.length - i) (⟨0, 0, 0, 0, 0⟩ : Step)).set i ⟨(l.getD i default).op, (l.getD i default).r, (l.getD i default).a, (l.getD i default).b, (l.getD i default).n⟩ = l.take (i + 1) ++ List.replicate (l.length - (i + 1)) ⟨0, 0, 0, 0, 0⟩ := hs
   try simp only [go_sem, qA, qB, qC, qD, qE, qF, qG, qH, qBg _ i (hm ▸ hl'), hm, hs', qA4 (i := i) (by omega)]
   repeat refine K ?_
   refine qA5 (i + 1) (Sub.shape [] id (by omega) ?_ ?_ ?_ ?_) ?_ ?_
   any_goals (first | omega | (simp [qA2]; done))
  ·simp only [decide_eq_false_iff_not] at hc
   have : i = l.length := by omega
   subst this
   simp only [go_sem, qA, qB, qC, qD, qE, qF, qG, qH]
   repeat refine K ?_
   refine fz ?_; simp [FinS, nilL, nilV, oneOr, -List.drop_one]
theorem szStepS_ok (xs : List Step) (n : Int) (hx : xs.length < 2 ^ 63) (h0 : 0 ≤ n) (h1 : n ≤ 2 ^ 62) : CallOk Tryz.prog num 274 [.sl .bw 5 (steps xs), .int .i64 n] [] (.int .i64 (szL xs.length n)) := by
 refine EN m274 Tryz.func119 ?_
 unfold m274
 have hw : IntKind.i64.wrap (n - xs.length) = n - xs.length := qAc (by omega) (by omega)
 simp only [go_sem, qA, qB, qC, qD, qE, qF, qG, qH, hw]
 repeat refine K ?_
 refine qA1 (fun hc => ?_) (fun hc => ?_)
 ·simp only [go_sem, qA, qB, qC, qD, qE, qF, qG, qH]
  repeat refine K ?_
  refine fz ?_; simp [FinS, nilL, nilV, oneOr, -List.drop_one]
  simp only [decide_eq_true_eq] at hc
  simp [szL, hc]
 ·simp only [go_sem, qA, qB, qC, qD, qE, qF, qG, qH]
  repeat refine K ?_
  refine fz ?_; simp [FinS, nilL, nilV, oneOr, -List.drop_one]
  simp only [decide_eq_false_iff_not] at hc
  simp [szL, hc]
theorem toWrite_ok (x : Write) (h1 : 8 * x.view.length ≤ 2 ^ 47) : CallOk Tryz.prog num 342 [.agg (writeC .bw x)] [] (.agg (writeC .own x)) := by
 refine EN m342 Tryz.func236 ?_
 unfold m342
 simp only [go_sem, qA, qB, qC, qD, qE, qF, qG, qH]
 repeat refine K ?_
 refine CA [] (toIntS_ok x.view h1) ?_
 try simp only [go_sem, qA, qB, qC, qD, qE, qF, qG, qH]
 repeat refine K ?_
 refine ⟨_, Sub.refl _, qAe ?_⟩; simp [-List.drop_one]
theorem nil_writes : ∀ (n : Nat), nilRs (List.replicate n [.int .i64 0, AV.nil]) (writes .own (List.replicate n ⟨0, []⟩))
 | 0 => by simp [writes]
 | n + 1 => by
  have := nil_writes n
  simp only [List.replicate_succ, writes, List.map_cons] at this ⊢
  exact (qDe _ _ _ _).2 ⟨by simp [writeC, ints_nil], this⟩
theorem toWriteS_ok (l : List Write) (hl : 64 * l.length ≤ 2 ^ 47) (hb1 : ∀ x ∈ l, 8 * x.view.length ≤ 2 ^ 47) : CallOk Tryz.prog num 323 [.sl .bw 2 (writes .bw l)] [] (.sl .own 2 (writes .own l)) := by
 refine EN m323 Tryz.func198 ?_
 unfold m323
 simp only [go_sem, qA, qB, qC, qD, qE, qF, qG, qH]
 repeat refine K ?_
 refine qA6 (ι := Nat) (fun i => .mk [(0, .sl .bw 2 (writes .bw l)), (3, .ns 10 0 l.length), (4, .int .i64 i)] [(10, 2, writes .own (l.take i ++ List.replicate (l.length - i) ⟨0, []⟩))] 11) (fun i => i ≤ l.length) (fun i => l.length - i) 0 (by simp) ?_ ?_
 ·refine Sub.shape [] id (by omega) ?_ ?_ ?_ ?_ <;> simp [qA2]
  right
  exact nil_writes _
 ·intro i hi
  simp only [go_sem, qA, qB, qC, qD, qE, qF, qG, qH]
  refine qA1 (fun hc => ?_) (fun hc => ?_)
  ·simp only [decide_eq_true_eq] at hc
   have hl' : i < l.length := by omega
   have hm := qCt l (⟨0, []⟩ : Write) i hi
   simp only [go_sem, qA, qB, qC, qD, qE, qF, qG, qH, qBe .bw l i hl', hm]
   repeat refine K ?_
   refine CA [] (toWrite_ok (l.getD i default) (hb1 _ (qA9 l i default hl'))) ?_
   try simp only [go_sem, qA, qB, qC, qD, qE, qF, qG, qH]
   repeat refine K ?_
   have hs := fill_set l default (⟨0, []⟩ : Write) i hl'
   try simp only [go_sem, qA, qB, qC, qD, qE, qF, qG, qH, qBe .own _ i (hm ▸ hl'), hm, qA4 (i := i) (by omega)]
   repeat refine K ?_
   refine qA5 (i + 1) ?_ hl' (by omega)
   refine Sub.trans (Sub.foldAt 10 1 11 rfl (by simp [-gD] <;> omega) rfl (by decide) (by decide) rfl (by simp <;> omega)) ?_
   simp only [fS, fS2, qA, qC, writes_set, hs]
   refine Sub.shape [] id (by omega) ?_ ?_ ?_ ?_ <;> simp [qA2]
  ·simp only [decide_eq_false_iff_not] at hc
   have : i = l.length := by omega
   subst this
   simp only [go_sem, qA, qB, qC, qD, qE, qF, qG, qH]
   repeat refine K ?_
   refine fz ?_; simp [FinS, nilL, nilV, oneOr, -List.drop_one]
theorem szWrite_ok (x : Write) (n : Int) (hx : x.view.length < 2 ^ 63) (h0 : 0 ≤ n) (h1 : n ≤ 2 ^ 61) : CallOk Tryz.prog num 341 [.agg (writeC .bw x), .int .i64 n] [] (.int .i64 (szL (x.view.length) n)) := by
 refine EN m341 Tryz.func232 ?_
 unfold m341
 simp only [go_sem, qA, qB, qC, qD, qE, qF, qG, qH]
 repeat refine K ?_
 refine CA [] (szIntS_ok x.view n hx h0 (by omega)) ?_
 try simp only [go_sem, qA, qB, qC, qD, qE, qF, qG, qH]
 repeat refine K ?_
 refine qA1 (fun hk => ?_) (fun hk => ?_)
 ·simp only [decide_eq_true_eq] at hk
  simp only [go_sem, qA, qB, qC, qD, qE, qF, qG, qH]
  repeat refine K ?_
  refine fz ?_; simp [FinS, nilL, nilV, oneOr, -List.drop_one]
  simp [szL_neg hk]
 ·simp only [decide_eq_false_iff_not] at hk
  simp only [go_sem, qA, qB, qC, qD, qE, qF, qG, qH]
  repeat refine K ?_
  refine fz ?_; simp [FinS, nilL, nilV, oneOr, -List.drop_one]
theorem szWriteS_ok (l : List Write) (n : Int) (hl : l.length < 2 ^ 63) (hb : ∀ x ∈ l, x.view.length < 2 ^ 63) (h0 : 0 ≤ n) (h1 : n ≤ 2 ^ 61) : CallOk Tryz.prog num 321 [.sl .bw 2 (writes .bw l), .int .i64 n] [] (.int .i64 (szL (l.length + tots zWrite l) n)) := by
 refine EN m321 Tryz.func193 ?_
 unfold m321
 have hw : IntKind.i64.wrap (n - l.length) = n - l.length := qAc (by omega) (by omega)
 simp only [go_sem, qA, qB, qC, qD, qE, qF, qG, qH, hw]
 repeat refine K ?_
 refine qA1 (fun hc => ?_) (fun hc => ?_)
 ·simp only [decide_eq_true_eq] at hc
  simp only [go_sem, qA, qB, qC, qD, qE, qF, qG, qH]
  repeat refine K ?_
  refine fz ?_; simp [FinS, nilL, nilV, oneOr, -List.drop_one]
  rw [szL_small (by push_cast; omega)]
 ·simp only [decide_eq_false_iff_not] at hc
  simp only [go_sem, qA, qB, qC, qD, qE, qF, qG, qH]
  repeat refine K ?_
  refine qA6 (ι := Nat) (fun i => .mk [(0, .sl .bw 2 (writes .bw l)), (1, .int .i64 (n - l.length - tots zWrite (l.take i))), (5, .int .i64 i)] [] 10) (fun i => i ≤ l.length ∧ (tots zWrite (l.take i) : Int) ≤ n - l.length) (fun i => l.length - i) 0 ⟨by simp, by simp [tots]; omega⟩ ?_ ?_
  ·refine Sub.shape [] id (by omega) ?_ ?_ ?_ ?_ <;> simp [qA2]
   all_goals simp [tots]
  ·rintro i ⟨hi, hs⟩
   simp only [go_sem, qA, qB, qC, qD, qE, qF, qG, qH]
   refine qA1 (fun hc2 => ?_) (fun hc2 => ?_)
   ·simp only [decide_eq_true_eq] at hc2
    have hl' : i < l.length := by omega
    have ht := qBn zWrite l default i hl'
    have hle := qAx zWrite l (i + 1)
    have hz : zWrite (l.getD i default) = (l.getD i default).view.length := rfl
    simp only [go_sem, qA, qB, qC, qD, qE, qF, qG, qH, qBe .bw l i hl']
    repeat refine K ?_
    refine CA [] (szWrite_ok (l.getD i default) (n - l.length - tots zWrite (l.take i)) (hb _ (qA9 l i default hl')) (by omega) (by omega)) ?_
    try simp only [go_sem, qA, qB, qC, qD, qE, qF, qG, qH]
    repeat refine K ?_
    refine qA1 (fun hc3 => ?_) (fun hc3 => ?_)
    ·simp only [decide_eq_true_eq] at hc3
     have h3 : n - l.length - tots zWrite (l.take i) < (((l.getD i default).view.length : Nat) : Int) := by
      apply Int.lt_of_not_ge
      intro h
      rw [szL_big (by omega)] at hc3
      omega
     simp only [go_sem, qA, qB, qC, qD, qE, qF, qG, qH]
     repeat refine K ?_
     refine fz ?_; simp [FinS, nilL, nilV, oneOr, -List.drop_one]
     rw [szL_small (by push_cast; push_cast at h3; omega)]
    ·simp only [decide_eq_false_iff_not] at hc3
     have h3 := szL_nonneg hc3
     rw [h3] at hc3
     have e3 : n - l.length - (tots zWrite (l.take i) : Int) - (((l.getD i default).view.length : Nat) : Int) = n - l.length - tots zWrite (l.take (i + 1)) := by omega
     try simp only [go_sem, qA, qB, qC, qD, qE, qF, qG, qH, h3, e3, qA4 (i := i) (by omega)]
     repeat refine K ?_
     refine qA5 (i + 1) (Sub.shape [] id (by omega) ?_ ?_ ?_ ?_) ?_ ?_
     any_goals (first | omega | (simp [qA2]; done))
   ·simp only [decide_eq_false_iff_not] at hc2
    have he : l.take i = l := List.take_of_length_le (by omega)
    rw [he] at hs
    simp only [go_sem, qA, qB, qC, qD, qE, qF, qG, qH, he]
    repeat refine K ?_
    refine fz ?_; simp [FinS, nilL, nilV, oneOr, -List.drop_one]
    rw [szL_big (by push_cast; omega)]
    try (push_cast; omega)
theorem toCore_ok (x : Core) (h1 : 8 * x.regs.length ≤ 2 ^ 47) (h2 : 8 * x.view.length ≤ 2 ^ 47) : CallOk Tryz.prog num 278 [.agg (coreC .bw x)] [] (.agg (coreC .own x)) := by
 refine EN m278 Tryz.func130 ?_
 unfold m278
 simp only [go_sem, qA, qB, qC, qD, qE, qF, qG, qH]
 repeat refine K ?_
 refine CA [] (toIntS_ok x.regs h1) ?_
 try simp only [go_sem, qA, qB, qC, qD, qE, qF, qG, qH]
 repeat refine K ?_
 refine CA [] (toIntS_ok x.view h2) ?_
 try simp only [go_sem, qA, qB, qC, qD, qE, qF, qG, qH]
 repeat refine K ?_
 refine ⟨_, Sub.refl _, qAe ?_⟩; simp [-List.drop_one]
theorem nil_cores : ∀ (n : Nat), nilRs (List.replicate n [.int .i64 0, AV.nil, AV.nil, .int .i64 0]) (cores .own (List.replicate n ⟨0, [], [], 0⟩))
 | 0 => by simp [cores]
 | n + 1 => by
  have := nil_cores n
  simp only [List.replicate_succ, cores, List.map_cons] at this ⊢
  exact (qDe _ _ _ _).2 ⟨by simp [coreC, ints_nil], this⟩
theorem toCoreS_ok (l : List Core) (hl : 64 * l.length ≤ 2 ^ 47) (hb1 : ∀ x ∈ l, 8 * x.regs.length ≤ 2 ^ 47) (hb2 : ∀ x ∈ l, 8 * x.view.length ≤ 2 ^ 47) : CallOk Tryz.prog num 227 [.sl .bw 4 (cores .bw l)] [] (.sl .own 4 (cores .own l)) := by
 refine EN m227 Tryz.func58 ?_
 unfold m227
 simp only [go_sem, qA, qB, qC, qD, qE, qF, qG, qH]
 repeat refine K ?_
 refine qA6 (ι := Nat) (fun i => .mk [(0, .sl .bw 4 (cores .bw l)), (3, .ns 10 0 l.length), (4, .int .i64 i)] [(10, 4, cores .own (l.take i ++ List.replicate (l.length - i) ⟨0, [], [], 0⟩))] 11) (fun i => i ≤ l.length) (fun i => l.length - i) 0 (by simp) ?_ ?_
 ·refine Sub.shape [] id (by omega) ?_ ?_ ?_ ?_ <;> simp [qA2]
  right
  exact nil_cores _
 ·intro i hi
  simp only [go_sem, qA, qB, qC, qD, qE, qF, qG, qH]
  refine qA1 (fun hc => ?_) (fun hc => ?_)
  ·simp only [decide_eq_true_eq] at hc
   have hl' : i < l.length := by omega
   have hm := qCt l (⟨0, [], [], 0⟩ : Core) i hi
   simp only [go_sem, qA, qB, qC, qD, qE, qF, qG, qH, qAj .bw l i hl', hm]
   repeat refine K ?_
   refine CA [] (toCore_ok (l.getD i default) (hb1 _ (qA9 l i default hl')) (hb2 _ (qA9 l i default hl'))) ?_
   try simp only [go_sem, qA, qB, qC, qD, qE, qF, qG, qH]
   repeat refine K ?_
   have hs := fill_set l default (⟨0, [], [], 0⟩ : Core) i hl'
   try simp only [go_sem, qA, qB, qC, qD, qE, qF, qG, qH, qAj .own _ i (hm ▸ hl'), hm, qA4 (i := i) (by omega)]
   repeat refine K ?_
   refine qA5 (i + 1) ?_ hl' (by omega)
   refine Sub.trans (Sub.foldAt 10 1 11 rfl (by simp [-gD] <;> omega) rfl (by decide) (by decide) rfl (by simp <;> omega)) ?_
   simp only [fS, fS2, qA, qC, qA3, hs]
   refine Sub.trans (Sub.foldAt 10 2 12 rfl (by simp [-gD] <;> omega) rfl (by decide) (by decide) rfl (by simp <;> omega)) ?_
   simp only [fS, fS2, qA, qC, qA3, hs]
   refine Sub.shape [] id (by omega) ?_ ?_ ?_ ?_ <;> simp [qA2]
  ·simp only [decide_eq_false_iff_not] at hc
   have : i = l.length := by omega
   subst this
   simp only [go_sem, qA, qB, qC, qD, qE, qF, qG, qH]
   repeat refine K ?_
   refine fz ?_; simp [FinS, nilL, nilV, oneOr, -List.drop_one]
theorem szCore_ok (x : Core) (n : Int) (hx1 : x.regs.length < 2 ^ 63) (hx2 : x.view.length < 2 ^ 63) (h0 : 0 ≤ n) (h1 : n ≤ 2 ^ 61) : CallOk Tryz.prog num 275 [.agg (coreC .bw x), .int .i64 n] [] (.int .i64 (szL (x.regs.length + x.view.length) n)) := by
 rw [← szL_add _ _ _ h0]
 refine EN m275 Tryz.func120 ?_
 unfold m275
 simp only [go_sem, qA, qB, qC, qD, qE, qF, qG, qH]
 repeat refine K ?_
 refine CA [] (szIntS_ok x.regs n hx1 h0 (by omega)) ?_
 try simp only [go_sem, qA, qB, qC, qD, qE, qF, qG, qH]
 repeat refine K ?_
 refine qA1 (fun hk => ?_) (fun hk => ?_)
 ·simp only [decide_eq_true_eq] at hk
  rw [if_pos hk]
  simp only [go_sem, qA, qB, qC, qD, qE, qF, qG, qH]
  repeat refine K ?_
  refine fz ?_; simp [FinS, nilL, nilV, oneOr, -List.drop_one]
 ·simp only [decide_eq_false_iff_not] at hk
  have hle := szL_le (k := x.regs.length) h0
  rw [if_neg hk]
  simp only [go_sem, qA, qB, qC, qD, qE, qF, qG, qH]
  repeat refine K ?_
  refine CA [] (szIntS_ok x.view (szL x.regs.length n) hx2 (by omega) (by omega)) ?_
  try simp only [go_sem, qA, qB, qC, qD, qE, qF, qG, qH]
  repeat refine K ?_
  refine qA1 (fun hk2 => ?_) (fun hk2 => ?_)
  ·simp only [decide_eq_true_eq] at hk2
   simp only [go_sem, qA, qB, qC, qD, qE, qF, qG, qH]
   repeat refine K ?_
   refine fz ?_; simp [FinS, nilL, nilV, oneOr, -List.drop_one]
   rw [szL_neg hk2]
  ·simp only [go_sem, qA, qB, qC, qD, qE, qF, qG, qH]
   repeat refine K ?_
   refine fz ?_; simp [FinS, nilL, nilV, oneOr, -List.drop_one]
theorem szCoreS_ok (l : List Core) (n : Int) (hl : l.length < 2 ^ 63) (hb1 : ∀ x ∈ l, x.regs.length < 2 ^ 63) (hb2 : ∀ x ∈ l, x.view.length < 2 ^ 63) (h0 : 0 ≤ n) (h1 : n ≤ 2 ^ 61) : CallOk Tryz.prog num 222 [.sl .bw 4 (cores .bw l), .int .i64 n] [] (.int .i64 (szL (l.length + tots zCore l) n)) := by
 refine EN m222 Tryz.func50 ?_
 unfold m222
 have hw : IntKind.i64.wrap (n - l.length) = n - l.length := qAc (by omega) (by omega)
 simp only [go_sem, qA, qB, qC, qD, qE, qF, qG, qH, hw]
 repeat refine K ?_
 refine qA1 (fun hc => ?_) (fun hc => ?_)
 ·simp only [decide_eq_true_eq] at hc
  simp only [go_sem, qA, qB, qC, qD, qE, qF, qG, qH]
  repeat refine K ?_
  refine fz ?_; simp [FinS, nilL, nilV, oneOr, -List.drop_one]
  rw [szL_small (by push_cast; omega)]
 ·simp only [decide_eq_false_iff_not] at hc
  simp only [go_sem, qA, qB, qC, qD, qE, qF, qG, qH]
  repeat refine K ?_
  refine qA6 (ι := Nat) (fun i => .mk [(0, .sl .bw 4 (cores .bw l)), (1, .int .i64 (n - l.length - tots zCore (l.take i))), (5, .int .i64 i)] [] 10) (fun i => i ≤ l.length ∧ (tots zCore (l.take i) : Int) ≤ n - l.length) (fun i => l.length - i) 0 ⟨by simp, by simp [tots]; omega⟩ ?_ ?_
  ·refine Sub.shape [] id (by omega) ?_ ?_ ?_ ?_ <;> simp [qA2]
   all_goals simp [tots]
  ·rintro i ⟨hi, hs⟩
   simp only [go_sem, qA, qB, qC, qD, qE, qF, qG, qH]
   refine qA1 (fun hc2 => ?_) (fun hc2 => ?_)
   ·simp only [decide_eq_true_eq] at hc2
    have hl' : i < l.length := by omega
    have ht := qBn zCore l default i hl'
    have hle := qAx zCore l (i + 1)
    have hz : zCore (l.getD i default) = (l.getD i default).regs.length + (l.getD i default).view.length := rfl
    simp only [go_sem, qA, qB, qC, qD, qE, qF, qG, qH, qAj .bw l i hl']
    repeat refine K ?_
    refine CA [] (szCore_ok (l.getD i default) (n - l.length - tots zCore (l.take i)) (hb1 _ (qA9 l i default hl')) (hb2 _ (qA9 l i default hl')) (by omega) (by omega)) ?_
    try simp only [go_sem, qA, qB, qC, qD, qE, qF, qG, qH]
    repeat refine K ?_
    refine qA1 (fun hc3 => ?_) (fun hc3 => ?_)
    ·simp only [decide_eq_true_eq] at hc3
     have h3 : n - l.length - tots zCore (l.take i) < (((l.getD i default).regs.length + (l.getD i default).view.length : Nat) : Int) := by
      apply Int.lt_of_not_ge
      intro h
      rw [szL_big (by omega)] at hc3
      omega
     simp only [go_sem, qA, qB, qC, qD, qE, qF, qG, qH]
     repeat refine K ?_
     refine fz ?_; simp [FinS, nilL, nilV, oneOr, -List.drop_one]
     rw [szL_small (by push_cast; push_cast at h3; omega)]
    ·simp only [decide_eq_false_iff_not] at hc3
     have h3 := szL_nonneg hc3
     rw [h3] at hc3
     have e3 : n - l.length - (tots zCore (l.take i) : Int) - (((l.getD i default).regs.length + (l.getD i default).view.length : Nat) : Int) = n - l.length - tots zCore (l.take (i + 1)) := by omega
     try simp only [go_sem, qA, qB, qC, qD, qE, qF, qG, qH, h3, e3, qA4 (i := i) (by omega)]
     repeat refine K ?_
     refine qA5 (i + 1) (Sub.shape [] id (by omega) ?_ ?_ ?_ ?_) ?_ ?_
     any_goals (first | omega | (simp [qA2]; done))
   ·simp only [decide_eq_false_iff_not] at hc2
    have he : l.take i = l := List.take_of_length_le (by omega)
    rw [he] at hs
    simp only [go_sem, qA, qB, qC, qD, qE, qF, qG, qH, he]
    repeat refine K ?_
    refine fz ?_; simp [FinS, nilL, nilV, oneOr, -List.drop_one]
    rw [szL_big (by push_cast; omega)]
    try (push_cast; omega)
theorem nil_codes : ∀ (n : Nat), nilRs (List.replicate n [AV.nil]) (codes .own (List.replicate n []))
 | 0 => by simp [codes]
 | n + 1 => by
  have := nil_codes n
  simp only [List.replicate_succ, codes, List.map_cons] at this ⊢
  exact (qDe _ _ _ _).2 ⟨by simp [steps], this⟩
theorem toStepSS_ok (l : List (List Step)) (hl : 24 * l.length ≤ 2 ^ 47) (hb : ∀ b ∈ l, 64 * b.length ≤ 2 ^ 47) : CallOk Tryz.prog num 226 [.sl .bw 1 (codes .bw l)] [] (.sl .own 1 (codes .own l)) := by
 refine EN m226 Tryz.func57 ?_
 unfold m226
 simp only [go_sem, qA, qB, qC, qD, qE, qF, qG, qH]
 repeat refine K ?_
 refine qA6 (ι := Nat) (fun i => .mk [(0, .sl .bw 1 (codes .bw l)), (3, .ns 10 0 l.length), (4, .int .i64 i)] [(10, 1, codes .own (l.take i ++ List.replicate (l.length - i) []))] 11) (fun i => i ≤ l.length) (fun i => l.length - i) 0 (by simp) ?_ ?_
 ·refine Sub.shape [] id (by omega) ?_ ?_ ?_ ?_ <;> simp [qA2]
  right
  exact nil_codes _
 ·intro i hi
  simp only [go_sem, qA, qB, qC, qD, qE, qF, qG, qH]
  refine qA1 (fun hc => ?_) (fun hc => ?_)
  ·simp only [decide_eq_true_eq] at hc
   have hl' : i < l.length := by omega
   have hm := qCt l ([] : List Step) i hi
   simp only [go_sem, qA, qB, qC, qD, qE, qF, qG, qH, qBc .bw l i hl', hm]
   repeat refine K ?_
   refine CA [] (toStepS_ok (l.getD i []) (by have := hb _ (qA9 l i [] hl'); omega) ) ?_
   try simp only [go_sem, qA, qB, qC, qD, qE, qF, qG, qH]
   repeat refine K ?_
   have hs := fill_set l [] ([] : List Step) i hl'
   try simp only [go_sem, qA, qB, qC, qD, qE, qF, qG, qH, qBc .own _ i (hm ▸ hl'), hm, qA4 (i := i) (by omega)]
   repeat refine K ?_
   refine qA5 (i + 1) ?_ hl' (by omega)
   refine Sub.trans (Sub.foldAt 10 0 11 rfl (by simp [-gD] <;> omega) rfl (by decide) (by decide) rfl (by simp <;> omega)) ?_
   simp only [fS, fS2, qA, qC, codes_set, hs]
   refine Sub.shape [] id (by omega) ?_ ?_ ?_ ?_ <;> simp [qA2]
  ·simp only [decide_eq_false_iff_not] at hc
   have : i = l.length := by omega
   subst this
   simp only [go_sem, qA, qB, qC, qD, qE, qF, qG, qH]
   repeat refine K ?_
   refine fz ?_; simp [FinS, nilL, nilV, oneOr, -List.drop_one]
theorem szStepSS_ok (l : List (List Step)) (n : Int) (hl : l.length < 2 ^ 63) (hb : ∀ b ∈ l, b.length < 2 ^ 63) (h0 : 0 ≤ n) (h1 : n ≤ 2 ^ 61) : CallOk Tryz.prog num 221 [.sl .bw 1 (codes .bw l), .int .i64 n] [] (.int .i64 (szL (l.length + tots zStepS l) n)) := by
 refine EN m221 Tryz.func49 ?_
 unfold m221
 have hw : IntKind.i64.wrap (n - l.length) = n - l.length := qAc (by omega) (by omega)
 simp only [go_sem, qA, qB, qC, qD, qE, qF, qG, qH, hw]
 repeat refine K ?_
 refine qA1 (fun hc => ?_) (fun hc => ?_)
 ·simp only [decide_eq_true_eq] at hc
  simp only [go_sem, qA, qB, qC, qD, qE, qF, qG, qH]
  repeat refine K ?_
  refine fz ?_; simp [FinS, nilL, nilV, oneOr, -List.drop_one]
  rw [szL_small (by push_cast; omega)]
 ·simp only [decide_eq_false_iff_not] at hc
  simp only [go_sem, qA, qB, qC, qD, qE, qF, qG, qH]
  repeat refine K ?_
  refine qA6 (ι := Nat) (fun i => .mk [(0, .sl .bw 1 (codes .bw l)), (1, .int .i64 (n - l.length - tots zStepS (l.take i))), (5, .int .i64 i)] [] 10) (fun i => i ≤ l.length ∧ (tots zStepS (l.take i) : Int) ≤ n - l.length) (fun i => l.length - i) 0 ⟨by simp, by simp [tots]; omega⟩ ?_ ?_
  ·refine Sub.shape [] id (by omega) ?_ ?_ ?_ ?_ <;> simp [qA2]
   all_goals simp [tots]
  ·rintro i ⟨hi, hs⟩
   simp only [go_sem, qA, qB, qC, qD, qE, qF, qG, qH]
   refine qA1 (fun hc2 => ?_) (fun hc2 => ?_)
   ·simp only [decide_eq_true_eq] at hc2
    have hl' : i < l.length := by omega
    have hbl := hb _ (qA9 l i [] hl')
    have ht := qBn zStepS l [] i hl'
    have hle := qAx zStepS l (i + 1)
    have hz : zStepS (l.getD i []) = (l.getD i []).length := rfl
    simp only [go_sem, qA, qB, qC, qD, qE, qF, qG, qH, qBc .bw l i hl']
    repeat refine K ?_
    refine CA [] (szStepS_ok (l.getD i []) (n - l.length - tots zStepS (l.take i)) hbl  (by omega) (by omega)) ?_
    try simp only [go_sem, qA, qB, qC, qD, qE, qF, qG, qH]
    repeat refine K ?_
    refine qA1 (fun hc3 => ?_) (fun hc3 => ?_)
    ·simp only [decide_eq_true_eq] at hc3
     have h3 : n - l.length - tots zStepS (l.take i) < (((l.getD i []).length : Nat) : Int) := by
      apply Int.lt_of_not_ge
      intro h
      rw [szL_big (by omega)] at hc3
      omega
     simp only [go_sem, qA, qB, qC, qD, qE, qF, qG, qH]
     repeat refine K ?_
     refine fz ?_; simp [FinS, nilL, nilV, oneOr, -List.drop_one]
     rw [szL_small (by push_cast; push_cast at h3; omega)]
    ·simp only [decide_eq_false_iff_not] at hc3
     have h3 := szL_nonneg hc3
     rw [h3] at hc3
     have e3 : n - l.length - (tots zStepS (l.take i) : Int) - (((l.getD i []).length : Nat) : Int) = n - l.length - tots zStepS (l.take (i + 1)) := by omega
     try simp only [go_sem, qA, qB, qC, qD, qE, qF, qG, qH, h3, e3, qA4 (i := i) (by omega)]
     repeat refine K ?_
     refine qA5 (i + 1) (Sub.shape [] id (by omega) ?_ ?_ ?_ ?_) ?_ ?_
     any_goals (first | omega | (simp [qA2]; done))
   ·simp only [decide_eq_false_iff_not] at hc2
    have he : l.take i = l := List.take_of_length_le (by omega)
    rw [he] at hs
    simp only [go_sem, qA, qB, qC, qD, qE, qF, qG, qH, he]
    repeat refine K ?_
    refine fz ?_; simp [FinS, nilL, nilV, oneOr, -List.drop_one]
    rw [szL_big (by push_cast; omega)]
    try (push_cast; omega)
theorem nil_cels : ∀ (n : Nat), nilRs (List.replicate n [AV.nil]) (cels .own (List.replicate n []))
 | 0 => by simp [cels]
 | n + 1 => by
  have := nil_cels n
  simp only [List.replicate_succ, cels, List.map_cons] at this ⊢
  exact (qDe _ _ _ _).2 ⟨by simp [writes], this⟩
theorem toWriteSS_ok (l : List (List Write)) (hl : 24 * l.length ≤ 2 ^ 47) (hb : ∀ b ∈ l, 64 * b.length ≤ 2 ^ 47) (hc0 : ∀ b ∈ l, ∀ x ∈ b, 8 * x.view.length ≤ 2 ^ 47) : CallOk Tryz.prog num 279 [.sl .bw 1 (cels .bw l)] [] (.sl .own 1 (cels .own l)) := by
 refine EN m279 Tryz.func131 ?_
 unfold m279
 simp only [go_sem, qA, qB, qC, qD, qE, qF, qG, qH]
 repeat refine K ?_
 refine qA6 (ι := Nat) (fun i => .mk [(0, .sl .bw 1 (cels .bw l)), (3, .ns 10 0 l.length), (4, .int .i64 i)] [(10, 1, cels .own (l.take i ++ List.replicate (l.length - i) []))] 11) (fun i => i ≤ l.length) (fun i => l.length - i) 0 (by simp) ?_ ?_
 ·refine Sub.shape [] id (by omega) ?_ ?_ ?_ ?_ <;> simp [qA2]
  right
  exact nil_cels _
 ·intro i hi
  simp only [go_sem, qA, qB, qC, qD, qE, qF, qG, qH]
  refine qA1 (fun hc => ?_) (fun hc => ?_)
  ·simp only [decide_eq_true_eq] at hc
   have hl' : i < l.length := by omega
   have hm := qCt l ([] : List Write) i hi
   simp only [go_sem, qA, qB, qC, qD, qE, qF, qG, qH, qAq .bw l i hl', hm]
   repeat refine K ?_
   refine CA [] (toWriteS_ok (l.getD i []) (by have := hb _ (qA9 l i [] hl'); omega) (hc0 _ (qA9 l i [] hl'))) ?_
   try simp only [go_sem, qA, qB, qC, qD, qE, qF, qG, qH]
   repeat refine K ?_
   have hs := fill_set l [] ([] : List Write) i hl'
   try simp only [go_sem, qA, qB, qC, qD, qE, qF, qG, qH, qAq .own _ i (hm ▸ hl'), hm, qA4 (i := i) (by omega)]
   repeat refine K ?_
   refine qA5 (i + 1) ?_ hl' (by omega)
   refine Sub.trans (Sub.foldAt 10 0 11 rfl (by simp [-gD] <;> omega) rfl (by decide) (by decide) rfl (by simp <;> omega)) ?_
   simp only [fS, fS2, qA, qC, qAz, hs]
   refine Sub.shape [] id (by omega) ?_ ?_ ?_ ?_ <;> simp [qA2]
  ·simp only [decide_eq_false_iff_not] at hc
   have : i = l.length := by omega
   subst this
   simp only [go_sem, qA, qB, qC, qD, qE, qF, qG, qH]
   repeat refine K ?_
   refine fz ?_; simp [FinS, nilL, nilV, oneOr, -List.drop_one]
theorem szWriteSS_ok (l : List (List Write)) (n : Int) (hl : l.length < 2 ^ 63) (hb : ∀ b ∈ l, b.length < 2 ^ 63) (hc0 : ∀ b ∈ l, ∀ x ∈ b, x.view.length < 2 ^ 63) (h0 : 0 ≤ n) (h1 : n ≤ 2 ^ 61) : CallOk Tryz.prog num 276 [.sl .bw 1 (cels .bw l), .int .i64 n] [] (.int .i64 (szL (l.length + tots zWriteS l) n)) := by
 refine EN m276 Tryz.func121 ?_
 unfold m276
 have hw : IntKind.i64.wrap (n - l.length) = n - l.length := qAc (by omega) (by omega)
 simp only [go_sem, qA, qB, qC, qD, qE, qF, qG, qH, hw]
 repeat refine K ?_
 refine qA1 (fun hc => ?_) (fun hc => ?_)
 ·simp only [decide_eq_true_eq] at hc
  simp only [go_sem, qA, qB, qC, qD, qE, qF, qG, qH]
  repeat refine K ?_
  refine fz ?_; simp [FinS, nilL, nilV, oneOr, -List.drop_one]
  rw [szL_small (by push_cast; omega)]
 ·simp only [decide_eq_false_iff_not] at hc
  simp only [go_sem, qA, qB, qC, qD, qE, qF, qG, qH]
  repeat refine K ?_
  refine qA6 (ι := Nat) (fun i => .mk [(0, .sl .bw 1 (cels .bw l)), (1, .int .i64 (n - l.length - tots zWriteS (l.take i))), (5, .int .i64 i)] [] 10) (fun i => i ≤ l.length ∧ (tots zWriteS (l.take i) : Int) ≤ n - l.length) (fun i => l.length - i) 0 ⟨by simp, by simp [tots]; omega⟩ ?_ ?_
  ·refine Sub.shape [] id (by omega) ?_ ?_ ?_ ?_ <;> simp [qA2]
   all_goals simp [tots]
  ·rintro i ⟨hi, hs⟩
   simp only [go_sem, qA, qB, qC, qD, qE, qF, qG, qH]
   refine qA1 (fun hc2 => ?_) (fun hc2 => ?_)
   ·simp only [decide_eq_true_eq] at hc2
    have hl' : i < l.length := by omega
    have hbl := hb _ (qA9 l i [] hl')
    have ht := qBn zWriteS l [] i hl'
    have hle := qAx zWriteS l (i + 1)
    have hz : zWriteS (l.getD i []) = (l.getD i []).length + tots zWrite (l.getD i []) := rfl
    simp only [go_sem, qA, qB, qC, qD, qE, qF, qG, qH, qAq .bw l i hl']
    repeat refine K ?_
    refine CA [] (szWriteS_ok (l.getD i []) (n - l.length - tots zWriteS (l.take i)) hbl (hc0 _ (qA9 l i [] hl')) (by omega) (by omega)) ?_
    try simp only [go_sem, qA, qB, qC, qD, qE, qF, qG, qH]
    repeat refine K ?_
    refine qA1 (fun hc3 => ?_) (fun hc3 => ?_)
    ·simp only [decide_eq_true_eq] at hc3
     have h3 : n - l.length - tots zWriteS (l.take i) < (((l.getD i []).length + tots zWrite (l.getD i []) : Nat) : Int) := by
      apply Int.lt_of_not_ge
      intro h
      rw [szL_big (by omega)] at hc3
      omega
     simp only [go_sem, qA, qB, qC, qD, qE, qF, qG, qH]
     repeat refine K ?_
     refine fz ?_; simp [FinS, nilL, nilV, oneOr, -List.drop_one]
     rw [szL_small (by push_cast; push_cast at h3; omega)]
    ·simp only [decide_eq_false_iff_not] at hc3
     have h3 := szL_nonneg hc3
     rw [h3] at hc3
     have e3 : n - l.length - (tots zWriteS (l.take i) : Int) - (((l.getD i []).length + tots zWrite (l.getD i []) : Nat) : Int) = n - l.length - tots zWriteS (l.take (i + 1)) := by omega
     try simp only [go_sem, qA, qB, qC, qD, qE, qF, qG, qH, h3, e3, qA4 (i := i) (by omega)]
     repeat refine K ?_
     refine qA5 (i + 1) (Sub.shape [] id (by omega) ?_ ?_ ?_ ?_) ?_ ?_
     any_goals (first | omega | (simp [qA2]; done))
   ·simp only [decide_eq_false_iff_not] at hc2
    have he : l.take i = l := List.take_of_length_le (by omega)
    rw [he] at hs
    simp only [go_sem, qA, qB, qC, qD, qE, qF, qG, qH, he]
    repeat refine K ?_
    refine fz ?_; simp [FinS, nilL, nilV, oneOr, -List.drop_one]
    rw [szL_big (by push_cast; omega)]
    try (push_cast; omega)
structure LongM (m : Machine) : Prop where
 codes : m.codes.length < 2 ^ 63
 code : ∀ c ∈ m.codes, c.length < 2 ^ 63
 cores : m.cores.length < 2 ^ 63
 regs : ∀ k ∈ m.cores, k.regs.length < 2 ^ 63
 views : ∀ k ∈ m.cores, k.view.length < 2 ^ 63
 cells : m.mem.cells.length < 2 ^ 63
 cell : ∀ c ∈ m.mem.cells, c.length < 2 ^ 63
 view : ∀ c ∈ m.mem.cells, ∀ w ∈ c, w.view.length < 2 ^ 63
 tr : m.tr.length < 2 ^ 63
theorem toMemory_ok (cs : List (List Write)) (h : SmallC cs) : CallOk Tryz.prog num 228 [.agg (memoryC .bw ⟨cs⟩)] [] (.agg (memoryC .own ⟨cs⟩)) := by
 refine EN m228 Tryz.func59 ?_
 unfold m228
 simp only [go_sem, qA, qB, qC, qD, qE, qF, qG, qH]
 repeat refine K ?_
 refine CA [] (toWriteSS_ok cs (by have := h.len; omega) (fun b hb => by have := h.cell b hb; omega) (fun b hb x hx => by have := h.view b hb x hx; omega)) ?_
 try simp only [go_sem, qA, qB, qC, qD, qE, qF, qG, qH]
 repeat refine K ?_
 try simp only [go_sem, qA, qB, qC, qD, qE, qF, qG, qH]
 repeat refine K ?_
 refine ⟨_, Sub.refl _, qAe ?_⟩; simp [-List.drop_one]
theorem szMemory_ok (cs : List (List Write)) (n : Int) (h1 : cs.length < 2 ^ 63) (h2 : ∀ c ∈ cs, c.length < 2 ^ 63) (h3 : ∀ c ∈ cs, ∀ w ∈ c, w.view.length < 2 ^ 63) (h0 : 0 ≤ n) (hn : n ≤ 2 ^ 61) : CallOk Tryz.prog num 223 [.agg (memoryC .bw ⟨cs⟩), .int .i64 n] [] (.int .i64 (szL (zMem cs) n)) := by
 refine EN m223 Tryz.func51 ?_
 unfold m223 zMem
 simp only [go_sem, qA, qB, qC, qD, qE, qF, qG, qH]
 repeat refine K ?_
 refine CA [] (szWriteSS_ok cs n h1 h2 h3 h0 hn) ?_
 try simp only [go_sem, qA, qB, qC, qD, qE, qF, qG, qH]
 repeat refine K ?_
 refine qA1 (fun hk => ?_) (fun hk => ?_)
 ·simp only [decide_eq_true_eq] at hk
  simp only [go_sem, qA, qB, qC, qD, qE, qF, qG, qH]
  repeat refine K ?_
  refine fz ?_; simp [FinS, nilL, nilV, oneOr, -List.drop_one]
  rw [szL_neg hk]
 ·simp only [go_sem, qA, qB, qC, qD, qE, qF, qG, qH]
  repeat refine K ?_
  refine fz ?_; simp [FinS, nilL, nilV, oneOr, -List.drop_one]
theorem toMachine_ok (m : Machine) (h : SmallM m) : CallOk Tryz.prog num 173 [.agg (machineC .bw m)] [] (.agg (machineC .own m)) := by
 obtain ⟨h1, h2, h3, h4, h5, h6, h7⟩ := h
 refine EN m173 Tryz.func15 ?_
 unfold m173
 simp only [go_sem, qA, qB, qC, qD, qE, qF, qG, qH]
 repeat refine K ?_
 refine CA [] (toStepSS_ok m.codes (by omega) (fun b hb => by have := h2 b hb; omega)) ?_
 try simp only [go_sem, qA, qB, qC, qD, qE, qF, qG, qH]
 repeat refine K ?_
 try simp only [go_sem, qA, qB, qC, qD, qE, qF, qG, qH]
 repeat refine K ?_
 refine CA [] (toCoreS_ok m.cores (by omega) (fun b hb => by have := h4 b hb; omega) (fun b hb => by have := h5 b hb; omega)) ?_
 try simp only [go_sem, qA, qB, qC, qD, qE, qF, qG, qH]
 repeat refine K ?_
 try simp only [go_sem, qA, qB, qC, qD, qE, qF, qG, qH]
 repeat refine K ?_
 refine CA [] (toMemory_ok m.mem.cells h6) ?_
 try simp only [go_sem, qA, qB, qC, qD, qE, qF, qG, qH]
 repeat refine K ?_
 try simp only [go_sem, qA, qB, qC, qD, qE, qF, qG, qH]
 repeat refine K ?_
 refine CA [] (toNoteS_ok m.tr (by omega)) ?_
 try simp only [go_sem, qA, qB, qC, qD, qE, qF, qG, qH]
 repeat refine K ?_
 try simp only [go_sem, qA, qB, qC, qD, qE, qF, qG, qH]
 repeat refine K ?_
 refine ⟨_, Sub.refl _, qAe ?_⟩; simp [-List.drop_one]
set_option maxHeartbeats 2000000 in
theorem szMachine_ok (m : Machine) (n : Int) (h : LongM m) (h0 : 0 ≤ n) (hn : n ≤ 2 ^ 61) : CallOk Tryz.prog num 172 [.agg (machineC .bw m), .int .i64 n] [] (.int .i64 (szL (zMachine m) n)) := by
 obtain ⟨h1, h2, h3, h4, h5, h6, h7, h8, h9⟩ := h
 refine EN m172 Tryz.func12 ?_
 unfold m172 zMachine
 rw [← szL_add _ _ _ h0]
 simp only [go_sem, qA, qB, qC, qD, qE, qF, qG, qH]
 repeat refine K ?_
 refine CA [] (szStepSS_ok m.codes n h1 h2 h0 hn) ?_
 try simp only [go_sem, qA, qB, qC, qD, qE, qF, qG, qH]
 repeat refine K ?_
 have l1 := szL_le (k := m.codes.length + tots zStepS m.codes) h0
 generalize szL (m.codes.length + tots zStepS m.codes) n = n1 at *
 refine qA1 (fun hk => ?_) (fun hk => ?_)
 ·simp only [decide_eq_true_eq] at hk
  rw [if_pos hk]
  simp only [go_sem, qA, qB, qC, qD, qE, qF, qG, qH]
  repeat refine K ?_
  refine fz ?_; simp [FinS, nilL, nilV, oneOr, -List.drop_one]
 simp only [decide_eq_false_iff_not] at hk
 rw [if_neg hk, ← szL_add _ _ _ (by omega)]
 simp only [go_sem, qA, qB, qC, qD, qE, qF, qG, qH]
 repeat refine K ?_
 refine CA [] (szCoreS_ok m.cores n1 h3 h4 h5 (by omega) (by omega)) ?_
 try simp only [go_sem, qA, qB, qC, qD, qE, qF, qG, qH]
 repeat refine K ?_
 have l2 := szL_le (k := m.cores.length + tots zCore m.cores) (n := n1) (by omega)
 generalize szL (m.cores.length + tots zCore m.cores) n1 = n2 at *
 refine qA1 (fun hk2 => ?_) (fun hk2 => ?_)
 ·simp only [decide_eq_true_eq] at hk2
  rw [if_pos hk2]
  simp only [go_sem, qA, qB, qC, qD, qE, qF, qG, qH]
  repeat refine K ?_
  refine fz ?_; simp [FinS, nilL, nilV, oneOr, -List.drop_one]
 simp only [decide_eq_false_iff_not] at hk2
 rw [if_neg hk2, ← szL_add _ _ _ (by omega)]
 simp only [go_sem, qA, qB, qC, qD, qE, qF, qG, qH]
 repeat refine K ?_
 refine CA [] (szMemory_ok m.mem.cells n2 h6 h7 h8 (by omega) (by omega)) ?_
 try simp only [go_sem, qA, qB, qC, qD, qE, qF, qG, qH]
 repeat refine K ?_
 have l3 := szL_le (k := zMem m.mem.cells) (n := n2) (by omega)
 generalize szL (zMem m.mem.cells) n2 = n3 at *
 refine qA1 (fun hk3 => ?_) (fun hk3 => ?_)
 ·simp only [decide_eq_true_eq] at hk3
  rw [if_pos hk3]
  simp only [go_sem, qA, qB, qC, qD, qE, qF, qG, qH]
  repeat refine K ?_
  refine fz ?_; simp [FinS, nilL, nilV, oneOr, -List.drop_one]
 simp only [decide_eq_false_iff_not] at hk3
 rw [if_neg hk3]
 simp only [go_sem, qA, qB, qC, qD, qE, qF, qG, qH]
 repeat refine K ?_
 refine CA [] (szNoteS_ok m.tr n3 h9 (by omega) (by omega)) ?_
 try simp only [go_sem, qA, qB, qC, qD, qE, qF, qG, qH]
 repeat refine K ?_
 refine qA1 (fun hk4 => ?_) (fun hk4 => ?_)
 ·simp only [decide_eq_true_eq] at hk4
  simp only [go_sem, qA, qB, qC, qD, qE, qF, qG, qH]
  repeat refine K ?_
  refine fz ?_; simp [FinS, nilL, nilV, oneOr, -List.drop_one]
  rw [szL_neg hk4]
 ·simp only [go_sem, qA, qB, qC, qD, qE, qF, qG, qH]
  repeat refine K ?_
  refine fz ?_; simp [FinS, nilL, nilV, oneOr, -List.drop_one]
end Go.Sep
