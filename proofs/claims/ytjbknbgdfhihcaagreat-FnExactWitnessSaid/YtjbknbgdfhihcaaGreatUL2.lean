/- Contracts of functions. -/
import Derived.Test.YtjbknbgdfhihcaaGreatUL0
import Derived.Test.YtjbknbgdfhihcaaGreatUN2
namespace Go.Sep
open Go.Proofs
set_option linter.unusedSimpArgs false
set_option linter.unusedVariables false
set_option maxRecDepth 100000
open Nat renaming reduceAdd → qA, reduceMul → qB, reduceEqDiff → qC, reduceBEq → qD
open Int renaming reduceToNat → qE, reduceEq → qF, reduceLT → qG, reduceLE → qH
open List renaming getD_eq_getElem?_getD → gD
def m415 : MFn := ⟨29, [.cell 2 4 true, .t 3], .seq (xr [xo 2 (.alloc [.nil, .nil, .nil, .nil]), xF 3]) (.seq (xr [xv 6 0, xc1 7 372 (.t 6), xo 8 (.call 431 [] []), xo 9 (.build [.nil, .nil, .nil, .nil] [(0, 1, .t 7), (2, 1, .t 8)]), xo 4 (.alloc [.nil, .nil, .nil, .nil]), ⟨none, .store 4 (.t 4) (.t 9), none⟩]) (.seq (.seq (xr [xo 5 (.mv (xi 0))]) (.blk 0 (.loop (.seq (.seq (xr [xv 10 5, xv 11 0, xe 12 11, xo 13 (.bin .lss (.t 10) (.t 12))]) (.cond 13 (.skip) (.exit 0))) (.seq (.blk 1 (.dreg (.take 0 (xa 16 1 4) (.take 1 (xl 17 16) (.both 2 [] (xo 18 (.mkS [xz] 8 (xi 8) (xi 8))) (.only 3 [] (xo 19 (.mkS [xz] 8 (xi 24) (xi 24))) (.only 4 [] (xo 20 (.build [.int .i64 0, .nil, .nil, .int .i64 0] [(1, 1, .t 18), (2, 1, .t 19)])) (.only 5 [] (xo 21 (.mkSl [.int .i64 0, .nil, .nil, .int .i64 0] 1 [(0, .t 20)])) (.only 6 [1, 0] (xo 22 (.app 4 64 (.t 17) (.t 21))) (.only 7 [0, 1] (xa 23 1 4) (.only 8 [0, 1] ⟨none, .store 1 (.t 23) (.t 22), none⟩ (.done))))))) 3 [] (xo 19 (.mkS [xz] 8 (xi 24) (xi 24))) (.only 2 [] (xo 18 (.mkS [xz] 8 (xi 8) (xi 8))) (.only 4 [] (xo 20 (.build [.int .i64 0, .nil, .nil, .int .i64 0] [(1, 1, .t 18), (2, 1, .t 19)])) (.only 5 [] (xo 21 (.mkSl [.int .i64 0, .nil, .nil, .int .i64 0] 1 [(0, .t 20)])) (.only 6 [1, 0] (xo 22 (.app 4 64 (.t 17) (.t 21))) (.only 7 [0, 1] (xa 23 1 4) (.only 8 [0, 1] ⟨none, .store 1 (.t 23) (.t 22), none⟩ (.done)))))))))))) (xr [xv 14 5, xo 15 (.bin .add (.t 14) (xi 1)), xv 5 15])))))) (.seq (.seq (xr [xm 24 4 4, xc1 25 233 (.t 24), xo 26 (.un .«not» (.t 25))]) (.cond 26 (.seq (xr [xo 27 (.build [.nil, .nil, .nil, .nil] []), ⟨none, .store 4 (.t 2) (.t 27), none⟩, xF 3]) (.ret)) (.skip))) (.seq (xr [xm 28 4 4, ⟨none, .store 4 (.t 2) (.t 28), none⟩, xT 3]) (.ret)))))⟩
def m416 : MFn := ⟨37, [.cell 2 4 true, .t 3], .seq (xr [xo 2 (.alloc [.nil, .nil, .nil, .nil]), xF 3]) (.seq (xr [xo 7 (.call 432 [] []), xo 8 (.build [.nil, .nil, .nil, .nil] [(2, 1, .t 7)]), xo 4 (.alloc [.nil, .nil, .nil, .nil]), ⟨none, .store 4 (.t 4) (.t 8), none⟩]) (.seq (.seq (xr [xv 9 0, xe 10 9, xo 11 (.mv (xi 0))]) (.blk 0 (.loop (.seq (xr [xo 12 (.bin .lss (.t 11) (.t 10))]) (.seq (.cond 12 (.skip) (.exit 0)) (.seq (.blk 1 (.seq (xr [xo 13 (.iad 1 (.t 9) (.t 11)), xl 14 13, xv 6 14]) (.seq (.dreg (.take 0 (xa 15 0 4) (.take 1 (xl 16 15) (.take 3 (xv 18 6) (.only 2 [] (xo 17 (.mkSl [xz, xz, xz, xz, xz] 0 [])) (.only 4 [3] (xo 19 (.app 5 40 (.t 17) (.t 18))) (.only 5 [4, 3] (xo 20 (.mkSl [.nil] 1 [(0, .t 19)])) (.only 6 [1, 4, 0, 3] (xo 21 (.app 1 24 (.t 16) (.t 20))) (.only 7 [0, 1, 3] (xa 22 0 4) (.only 8 [0, 1, 3] ⟨none, .store 1 (.t 22) (.t 21), none⟩ (.done))))))))))) (.dreg (.take 0 (xa 23 1 4) (.take 1 (xl 24 23) (.both 2 [] (xo 25 (.mkS [xz] 8 (xi 8) (xi 8))) (.only 3 [] (xo 26 (.mkS [xz] 8 (xi 24) (xi 24))) (.only 4 [] (xo 27 (.build [.int .i64 0, .nil, .nil, .int .i64 0] [(1, 1, .t 25), (2, 1, .t 26)])) (.only 5 [] (xo 28 (.mkSl [.int .i64 0, .nil, .nil, .int .i64 0] 1 [(0, .t 27)])) (.only 6 [1, 0] (xo 29 (.app 4 64 (.t 24) (.t 28))) (.only 7 [0, 1] (xa 30 1 4) (.only 8 [0, 1] ⟨none, .store 1 (.t 30) (.t 29), none⟩ (.done))))))) 3 [] (xo 26 (.mkS [xz] 8 (xi 24) (xi 24))) (.only 2 [] (xo 25 (.mkS [xz] 8 (xi 8) (xi 8))) (.only 4 [] (xo 27 (.build [.int .i64 0, .nil, .nil, .int .i64 0] [(1, 1, .t 25), (2, 1, .t 26)])) (.only 5 [] (xo 28 (.mkSl [.int .i64 0, .nil, .nil, .int .i64 0] 1 [(0, .t 27)])) (.only 6 [1, 0] (xo 29 (.app 4 64 (.t 24) (.t 28))) (.only 7 [0, 1] (xa 30 1 4) (.only 8 [0, 1] ⟨none, .store 1 (.t 30) (.t 29), none⟩ (.done)))))))))))))) (xr [xo 31 (.bin .add (.t 11) (xi 1)), xv 11 31]))))))) (.seq (.seq (xr [xm 32 4 4, xc1 33 235 (.t 32), xo 34 (.un .«not» (.t 33))]) (.cond 34 (.seq (xr [xo 35 (.build [.nil, .nil, .nil, .nil] []), ⟨none, .store 4 (.t 2) (.t 35), none⟩, xF 3]) (.ret)) (.skip))) (.seq (xr [xm 36 4 4, ⟨none, .store 4 (.t 2) (.t 36), none⟩, xT 3]) (.ret)))))⟩
def m431 : MFn := ⟨17, [.cell 0 1 true], .seq (xr [xo 0 (.alloc [.nil])]) (.seq (xr [xo 3 (.build [.nil] []), xo 1 (.alloc [.nil]), ⟨none, .store 1 (.t 1) (.t 3), none⟩]) (.seq (.seq (xr [xo 2 (.mv (xi 0))]) (.blk 0 (.loop (.seq (.seq (xr [xv 4 2, xo 5 (.bin .lss (.t 4) (xi 24))]) (.cond 5 (.skip) (.exit 0))) (.seq (.blk 1 (.dreg (.take 0 (xa 8 0 1) (.take 1 (xl 9 8) (.only 2 [] (xo 10 (.mkS [xz] 8 (xi 24) (xi 24))) (.only 3 [] (xo 11 (.build [.int .i64 0, .nil] [(1, 1, .t 10)])) (.only 4 [] (xo 12 (.mkSl [.int .i64 0, .nil] 1 [(0, .t 11)])) (.only 5 [] (xo 13 (.mkSl [.nil] 1 [(0, .t 12)])) (.only 6 [1, 0] (xo 14 (.app 1 24 (.t 9) (.t 13))) (.only 7 [0, 1] (xa 15 0 1) (.only 8 [0, 1] ⟨none, .store 1 (.t 15) (.t 14), none⟩ (.done)))))))))))) (xr [xv 6 2, xo 7 (.bin .add (.t 6) (xi 1)), xv 2 7])))))) (.seq (xr [xm 16 1 1, ⟨none, .store 1 (.t 0) (.t 16), none⟩]) (.ret))))⟩
def m432 : MFn := ⟨15, [.cell 0 1 true], .seq (xr [xo 0 (.alloc [.nil])]) (.seq (xr [xo 2 (.build [.nil] []), xo 1 (.alloc [.nil]), ⟨none, .store 1 (.t 1) (.t 2), none⟩]) (.seq (.seq (xr [xo 3 (.mv (xi 0))]) (.blk 0 (.loop (.seq (xr [xo 4 (.bin .lss (.t 3) (xi 24))]) (.seq (.cond 4 (.skip) (.exit 0)) (.seq (.blk 1 (.dreg (.take 0 (xa 5 0 1) (.take 1 (xl 6 5) (.only 2 [] (xo 7 (.mkS [xz] 8 (xi 24) (xi 24))) (.only 3 [] (xo 8 (.build [.int .i64 0, .nil] [(1, 1, .t 7)])) (.only 4 [] (xo 9 (.mkSl [.int .i64 0, .nil] 1 [(0, .t 8)])) (.only 5 [] (xo 10 (.mkSl [.nil] 1 [(0, .t 9)])) (.only 6 [1, 0] (xo 11 (.app 1 24 (.t 6) (.t 10))) (.only 7 [0, 1] (xa 12 0 1) (.only 8 [0, 1] ⟨none, .store 1 (.t 12) (.t 11), none⟩ (.done)))))))))))) (xr [xo 13 (.bin .add (.t 3) (xi 1)), xv 3 13]))))))) (.seq (xr [xm 14 1 1, ⟨none, .store 1 (.t 0) (.t 14), none⟩]) (.ret))))⟩
def machNewR (l : List (List Step)) : Machine × Bool := if machineOk (machNew l) then (machNew l, true) else (nilM, false)
theorem mem0_next (i : Nat) : cels .own (List.replicate i [w00]) ++ [[.sl .own 2 (writes .own [w00])]] = cels .own (List.replicate (i + 1) [w00]) := by
 rw [List.replicate_succ']
 simp [cels]
theorem mem0_nextE (i : Nat) : cels .own (List.replicate i [w00]) ++ [[.sl .own 2 [[.int .i64 0, .sl .own 1 (ints z24)]]]] = cels .own (List.replicate (i + 1) [w00]) := mem0_next i
theorem core0_next (i : Nat) : cores .own (List.replicate i k00) ++ [[.int .i64 0, .sl .own 1 (ints z8), .sl .own 1 (ints z24), .int .i64 0]] = cores .own (List.replicate (i + 1) k00) := by
 rw [List.replicate_succ']
 simp [cores, coreC, k00]
theorem core0_nextE (i : Nat) : cores .own (List.replicate i k00) ++ [[.int .i64 0, .sl .own 1 [[AV.int .i64 0], [AV.int .i64 0], [AV.int .i64 0], [AV.int .i64 0], [AV.int .i64 0], [AV.int .i64 0], [AV.int .i64 0], [AV.int .i64 0]], .sl .own 1 [[AV.int .i64 0], [AV.int .i64 0], [AV.int .i64 0], [AV.int .i64 0], [AV.int .i64 0], [AV.int .i64 0], [AV.int .i64 0], [AV.int .i64 0], [AV.int .i64 0], [AV.int .i64 0], [AV.int .i64 0], [AV.int .i64 0], [AV.int .i64 0], [AV.int .i64 0], [AV.int .i64 0], [AV.int .i64 0], [AV.int .i64 0], [AV.int .i64 0], [AV.int .i64 0], [AV.int .i64 0], [AV.int .i64 0], [AV.int .i64 0], [AV.int .i64 0], [AV.int .i64 0]], .int .i64 0]] = cores .own (List.replicate (i + 1) k00) := core0_next i
theorem machNew_small {l : List (List Step)} (h1 : l.length < 2 ^ 40) (h2 : ∀ c ∈ l, c.length < 2 ^ 40) : SmallM (machNew l) := by
 refine ⟨h1, h2, by simp [machNew]; omega, fun k hk => ?_, fun k hk => ?_, ⟨by simp [machNew, mem0], fun c hc => ?_, fun c hc w hw => ?_⟩, by simp [machNew]⟩
 ·rw [List.eq_of_mem_replicate hk]
  simp [k00]
 ·rw [List.eq_of_mem_replicate hk]
  simp [k00]
 ·rw [List.eq_of_mem_replicate hc]
  simp
 ·rw [List.eq_of_mem_replicate hc, List.mem_singleton] at hw
  rw [hw]
  simp [w00]
theorem specMemoryNew_ok : CallOk Tryz.prog num 431 [] [] (.agg (memoryC .own ⟨mem0⟩)) := by
 refine EN m431 Tryz.func158 ?_
 unfold m431
 simp only [go_sem, qA, qB, qC, qD, qE, qF, qG, qH]
 repeat refine K ?_
 refine qA6 (ι := Nat) (fun i => .mk [(0, .ptr 10 0 0), (1, .ptr 11 0 0), (2, .int .i64 i)] [(10, 1, [[.nil]]), (11, 1, [[.sl .own 1 (cels .own (List.replicate i [w00]))]])] 12) (fun i => i ≤ 24) (fun i => 24 - i) 0 (by simp) ?_ ?_
 ·refine Sub.shape [] id (by omega) ?_ ?_ ?_ ?_ <;> simp [qA2]
 ·rintro i hi
  simp only [go_sem, qA, qB, qC, qD, qE, qF, qG, qH]
  refine qA1 (fun hc => ?_) (fun hc => ?_)
  ·simp only [decide_eq_true_eq] at hc
   have hl' : i < 24 := by omega
   have hlt : (List.replicate i [w00]).length = i := by simp
   simp only [go_sem, qA, qB, qC, qD, qE, qF, qG, qH, qA4 (i := i) (by omega), hlt, zero24]
   repeat refine K ?_
   refine qA5 (i + 1) ?_ hl' (by omega)
   refine Sub.trans (Sub.fold1 14 1 13 rfl (by simp [-gD] <;> omega) rfl (by decide) (by decide) rfl) ?_
   simp only [fS, fS2, qA, qC]
   refine Sub.trans (Sub.foldLast 16 0 14 rfl (by simp [-gD] <;> omega) rfl (by decide) (by decide) rfl) ?_
   simp only [fS, fS2, qA, qC, mem0_nextE]
   refine Sub.trans (Sub.fold1 11 0 16 rfl (by simp [-gD] <;> omega) rfl (by decide) (by decide) rfl) ?_
   simp only [fS, fS2, qA, qC]
   refine Sub.shape [] id (by omega) ?_ ?_ ?_ ?_ <;> simp [qA2]
   exact mem0_nextE i
  ·simp only [decide_eq_false_iff_not] at hc
   obtain rfl : i = 24 := by omega
   simp only [go_sem, qA, qB, qC, qD, qE, qF, qG, qH]
   repeat refine K ?_
   refine ⟨_, Sub.refl _, qAe ?_⟩; simp [-List.drop_one]
   simp [mem0]
theorem implMemoryNew_ok : CallOk Tryz.prog num 432 [] [] (.agg (memoryC .own ⟨mem0⟩)) := by
 refine EN m432 Tryz.func163 ?_
 unfold m432
 simp only [go_sem, qA, qB, qC, qD, qE, qF, qG, qH]
 repeat refine K ?_
 refine qA6 (ι := Nat) (fun i => .mk [(0, .ptr 10 0 0), (1, .ptr 11 0 0), (3, .int .i64 i)] [(10, 1, [[.nil]]), (11, 1, [[.sl .own 1 (cels .own (List.replicate i [w00]))]])] 12) (fun i => i ≤ 24) (fun i => 24 - i) 0 (by simp) ?_ ?_
 ·refine Sub.shape [] id (by omega) ?_ ?_ ?_ ?_ <;> simp [qA2]
 ·rintro i hi
  simp only [go_sem, qA, qB, qC, qD, qE, qF, qG, qH]
  refine qA1 (fun hc => ?_) (fun hc => ?_)
  ·simp only [decide_eq_true_eq] at hc
   have hl' : i < 24 := by omega
   have hlt : (List.replicate i [w00]).length = i := by simp
   simp only [go_sem, qA, qB, qC, qD, qE, qF, qG, qH, qA4 (i := i) (by omega), hlt, zero24]
   repeat refine K ?_
   refine qA5 (i + 1) ?_ hl' (by omega)
   refine Sub.trans (Sub.fold1 14 1 13 rfl (by simp [-gD] <;> omega) rfl (by decide) (by decide) rfl) ?_
   simp only [fS, fS2, qA, qC]
   refine Sub.trans (Sub.foldLast 16 0 14 rfl (by simp [-gD] <;> omega) rfl (by decide) (by decide) rfl) ?_
   simp only [fS, fS2, qA, qC, mem0_nextE]
   refine Sub.trans (Sub.fold1 11 0 16 rfl (by simp [-gD] <;> omega) rfl (by decide) (by decide) rfl) ?_
   simp only [fS, fS2, qA, qC]
   refine Sub.shape [] id (by omega) ?_ ?_ ?_ ?_ <;> simp [qA2]
   exact mem0_nextE i
  ·simp only [decide_eq_false_iff_not] at hc
   obtain rfl : i = 24 := by omega
   simp only [go_sem, qA, qB, qC, qD, qE, qF, qG, qH]
   repeat refine K ?_
   refine ⟨_, Sub.refl _, qAe ?_⟩; simp [-List.drop_one]
   simp [mem0]
set_option maxHeartbeats 4000000 in
theorem specMachineNew_ok (l : List (List Step)) (h1 : l.length < 2 ^ 40) (h2 : ∀ c ∈ l, c.length < 2 ^ 40) : CallOk Tryz.prog num 415 [.sl .bw 1 (codes .bw l)] [] (.tup [.agg (machineC .own (machNewR l).1), .bool (machNewR l).2]) := by
 have hsm := machNew_small h1 h2
 refine EN m415 Tryz.func81 ?_
 unfold m415
 simp only [go_sem, qA, qB, qC, qD, qE, qF, qG, qH]
 repeat refine K ?_
 refine CA [] (l8Codes_ok l h1 h2) ?_
 try simp only [go_sem, qA, qB, qC, qD, qE, qF, qG, qH]
 repeat refine K ?_
 try simp only [go_sem, qA, qB, qC, qD, qE, qF, qG, qH]
 repeat refine K ?_
 refine CA [] (specMemoryNew_ok) ?_
 try simp only [go_sem, qA, qB, qC, qD, qE, qF, qG, qH]
 repeat refine K ?_
 try simp only [go_sem, qA, qB, qC, qD, qE, qF, qG, qH]
 repeat refine K ?_
 refine qA6 (ι := Nat) (fun i => .mk [(0, .sl .bw 1 (codes .bw l)), (2, .ptr 10 0 0), (4, .ptr 11 0 0), (5, .int .i64 i)] [(10, 4, [[.nil, .nil, .nil, .nil]]), (11, 4, [[.sl .own 1 (codes .own l), .sl .own 4 (cores .own (List.replicate i k00)), .sl .own 1 (cels .own mem0), .sl .own 2 (notes [])]])] 12) (fun i => i ≤ l.length) (fun i => l.length - i) 0 (by simp) ?_ ?_
 ·refine Sub.trans (Sub.fold1 13 0 11 rfl (by simp [-gD] <;> omega) rfl (by decide) (by decide) rfl) ?_
  simp only [fS, fS2, qA, qC]
  refine Sub.trans (Sub.fold1 13 2 12 rfl (by simp [-gD] <;> omega) rfl (by decide) (by decide) rfl) ?_
  simp only [fS, fS2, qA, qC]
  refine Sub.shape [] (fun n => if n = 11 then 13 else n) (by omega) ?_ ?_ ?_ ?_ <;> simp [qA2]
 ·rintro i hi
  simp only [go_sem, qA, qB, qC, qD, qE, qF, qG, qH]
  refine qA1 (fun hc => ?_) (fun hc => ?_)
  ·simp only [decide_eq_true_eq] at hc
   have hl' : i < l.length := by omega
   have hlt : (List.replicate i k00).length = i := by simp
   simp only [go_sem, qA, qB, qC, qD, qE, qF, qG, qH, qA4 (i := i) (by omega), hlt]
   repeat refine K ?_
   refine ⟨?_, ?_⟩
   ·repeat refine K ?_
    try simp only [go_sem, qA, qB, qC, qD, qE, qF, qG, qH, qA4 (i := i) (by omega), hlt]
    repeat refine K ?_
    refine qA5 (i + 1) ?_ hl' (by omega)
    refine Sub.trans (Sub.foldLast 16 1 13 rfl (by simp [-gD] <;> omega) rfl (by decide) (by decide) rfl) ?_
    simp only [fS, fS2, qA, qC]
    refine Sub.trans (Sub.foldLast 16 2 14 rfl (by simp [-gD] <;> omega) rfl (by decide) (by decide) rfl) ?_
    simp only [fS, fS2, qA, qC, core0_nextE]
    refine Sub.trans (Sub.fold1 11 1 16 rfl (by simp [-gD] <;> omega) rfl (by decide) (by decide) rfl) ?_
    simp only [fS, fS2, qA, qC]
    refine Sub.shape [] id (by omega) ?_ ?_ ?_ ?_ <;> simp [qA2]
   ·repeat refine K ?_
    try simp only [go_sem, qA, qB, qC, qD, qE, qF, qG, qH, qA4 (i := i) (by omega), hlt]
    repeat refine K ?_
    refine qA5 (i + 1) ?_ hl' (by omega)
    refine Sub.trans (Sub.foldLast 16 1 14 rfl (by simp [-gD] <;> omega) rfl (by decide) (by decide) rfl) ?_
    simp only [fS, fS2, qA, qC]
    refine Sub.trans (Sub.foldLast 16 2 13 rfl (by simp [-gD] <;> omega) rfl (by decide) (by decide) rfl) ?_
    simp only [fS, fS2, qA, qC, core0_nextE]
    refine Sub.trans (Sub.fold1 11 1 16 rfl (by simp [-gD] <;> omega) rfl (by decide) (by decide) rfl) ?_
    simp only [fS, fS2, qA, qC]
    refine Sub.shape [] id (by omega) ?_ ?_ ?_ ?_ <;> simp [qA2]
  ·simp only [decide_eq_false_iff_not] at hc
   obtain rfl : i = l.length := by omega
   simp only [go_sem, qA, qB, qC, qD, qE, qF, qG, qH]
   repeat refine K ?_
   have hbw : bwR [] = ([] : List (List AV)) := rfl
   refine CA [] (specMachineOk_ok (machNew l) hsm) ?_
   try simp only [go_sem, qA, qB, qC, qD, qE, qF, qG, qH]
   repeat refine K ?_
   cases hk : machineOk (machNew l)
   ·have hr : machNewR l = (nilM, false) := by unfold machNewR; rw [hk]; rfl
    rw [hr]
    simp only [machNew] at hk
    try simp only [go_sem, qA, qB, qC, qD, qE, qF, qG, qH, hk]
    repeat refine K ?_
    refine ⟨_, Sub.refl _, qAo (by simp) ?_⟩; simp [-List.drop_one]
    simp [nilM]
   ·have hr : machNewR l = (machNew l, true) := by unfold machNewR; rw [hk]; rfl
    rw [hr]
    simp only [machNew] at hk
    try simp only [go_sem, qA, qB, qC, qD, qE, qF, qG, qH, hk]
    repeat refine K ?_
    refine ⟨_, Sub.refl _, qAo (by simp) ?_⟩; simp [-List.drop_one]
set_option maxHeartbeats 4000000 in
theorem implMachineNew_ok (l : List (List Step)) (h1 : l.length < 2 ^ 40) (h2 : ∀ c ∈ l, c.length < 2 ^ 40) : CallOk Tryz.prog num 416 [.sl .bw 1 (codes .bw l)] [] (.tup [.agg (machineC .own (machNewR l).1), .bool (machNewR l).2]) := by
 have hsm := machNew_small h1 h2
 refine EN m416 Tryz.func85 ?_
 unfold m416
 simp only [go_sem, qA, qB, qC, qD, qE, qF, qG, qH]
 repeat refine K ?_
 refine CA [] (implMemoryNew_ok) ?_
 try simp only [go_sem, qA, qB, qC, qD, qE, qF, qG, qH]
 repeat refine K ?_
 try simp only [go_sem, qA, qB, qC, qD, qE, qF, qG, qH]
 repeat refine K ?_
 refine qA6 (ι := Nat) (fun i => .mk [(2, .ptr 10 0 0), (4, .ptr 11 0 0), (9, .sl .bw 1 (codes .bw l)), (10, .int .i64 l.length), (11, .int .i64 i)] [(10, 4, [[.nil, .nil, .nil, .nil]]), (11, 4, [[.sl .own 1 (codes .own (l.take i)), .sl .own 4 (cores .own (List.replicate i k00)), .sl .own 1 (cels .own mem0), .sl .own 2 (notes [])]])] 12) (fun i => i ≤ l.length) (fun i => l.length - i) 0 (by simp) ?_ ?_
 ·refine Sub.trans (Sub.fold1 12 2 11 rfl (by simp [-gD] <;> omega) rfl (by decide) (by decide) rfl) ?_
  simp only [fS, fS2, qA, qC]
  refine Sub.shape [] (fun n => if n = 11 then 12 else n) (by omega) ?_ ?_ ?_ ?_ <;> simp [qA2]
 ·rintro i hi
  simp only [go_sem, qA, qB, qC, qD, qE, qF, qG, qH]
  refine qA1 (fun hc => ?_) (fun hc => ?_)
  ·simp only [decide_eq_true_eq] at hc
   have hl' : i < l.length := by omega
   have hlt : (List.replicate i k00).length = i := by simp
   have hlt2 : (l.take i).length = i := by simp; omega
   have hr := h2 _ (qA9 l i [] hl')
   simp only [go_sem, qA, qB, qC, qD, qE, qF, qG, qH, qA4 (i := i) (by omega), qBc .bw l i hl', hlt, hlt2]
   repeat refine K ?_
   refine ⟨?_, ?_⟩
   ·repeat refine K ?_
    try simp only [go_sem, qA, qB, qC, qD, qE, qF, qG, qH, qA4 (i := i) (by omega), hlt, hlt2]
    repeat refine K ?_
    refine qA5 (i + 1) ?_ hl' (by omega)
    refine Sub.trans (Sub.foldLast 16 0 14 rfl (by simp [-gD] <;> omega) rfl (by decide) (by decide) rfl) ?_
    simp only [fS, fS2, qA, qC, codes_next l i hl']
    refine Sub.trans (Sub.fold1 11 0 16 rfl (by simp [-gD] <;> omega) rfl (by decide) (by decide) rfl) ?_
    simp only [fS, fS2, qA, qC, List.length_take, Nat.min_eq_left (show i + 1 ≤ l.length from hl')]
    refine Sub.trans (Sub.foldLast 21 1 18 rfl (by simp [-gD] <;> omega) rfl (by decide) (by decide) rfl) ?_
    simp only [fS, fS2, qA, qC]
    refine Sub.trans (Sub.foldLast 21 2 19 rfl (by simp [-gD] <;> omega) rfl (by decide) (by decide) rfl) ?_
    simp only [fS, fS2, qA, qC, core0_nextE]
    refine Sub.trans (Sub.fold1 11 1 21 rfl (by simp [-gD] <;> omega) rfl (by decide) (by decide) rfl) ?_
    simp only [fS, fS2, qA, qC]
    refine Sub.shape [] id (by omega) ?_ ?_ ?_ ?_ <;> simp [qA2]
   ·repeat refine K ?_
    try simp only [go_sem, qA, qB, qC, qD, qE, qF, qG, qH, qA4 (i := i) (by omega), hlt, hlt2]
    repeat refine K ?_
    refine qA5 (i + 1) ?_ hl' (by omega)
    refine Sub.trans (Sub.foldLast 16 0 14 rfl (by simp [-gD] <;> omega) rfl (by decide) (by decide) rfl) ?_
    simp only [fS, fS2, qA, qC, codes_next l i hl']
    refine Sub.trans (Sub.fold1 11 0 16 rfl (by simp [-gD] <;> omega) rfl (by decide) (by decide) rfl) ?_
    simp only [fS, fS2, qA, qC, List.length_take, Nat.min_eq_left (show i + 1 ≤ l.length from hl')]
    refine Sub.trans (Sub.foldLast 21 1 19 rfl (by simp [-gD] <;> omega) rfl (by decide) (by decide) rfl) ?_
    simp only [fS, fS2, qA, qC]
    refine Sub.trans (Sub.foldLast 21 2 18 rfl (by simp [-gD] <;> omega) rfl (by decide) (by decide) rfl) ?_
    simp only [fS, fS2, qA, qC, core0_nextE]
    refine Sub.trans (Sub.fold1 11 1 21 rfl (by simp [-gD] <;> omega) rfl (by decide) (by decide) rfl) ?_
    simp only [fS, fS2, qA, qC]
    refine Sub.shape [] id (by omega) ?_ ?_ ?_ ?_ <;> simp [qA2]
  ·simp only [decide_eq_false_iff_not] at hc
   obtain rfl : i = l.length := by omega
   have hie : l.take l.length = l := List.take_length
   simp only [go_sem, qA, qB, qC, qD, qE, qF, qG, qH, hie]
   repeat refine K ?_
   have hbw : bwR [] = ([] : List (List AV)) := rfl
   refine CA [] (implMachineOk_ok (machNew l) hsm) ?_
   try simp only [go_sem, qA, qB, qC, qD, qE, qF, qG, qH]
   repeat refine K ?_
   cases hk : machineOk (machNew l)
   ·have hr : machNewR l = (nilM, false) := by unfold machNewR; rw [hk]; rfl
    rw [hr]
    simp only [machNew] at hk
    try simp only [go_sem, qA, qB, qC, qD, qE, qF, qG, qH, hk]
    repeat refine K ?_
    refine ⟨_, Sub.refl _, qAo (by simp) ?_⟩; simp [-List.drop_one]
    simp [nilM]
   ·have hr : machNewR l = (machNew l, true) := by unfold machNewR; rw [hk]; rfl
    rw [hr]
    simp only [machNew] at hk
    try simp only [go_sem, qA, qB, qC, qD, qE, qF, qG, qH, hk]
    repeat refine K ?_
    refine ⟨_, Sub.refl _, qAo (by simp) ?_⟩; simp [-List.drop_one]
end Go.Sep
