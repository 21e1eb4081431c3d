/- Contracts of functions. -/
import Derived.Test.YtjbknbgdfhihcaaVw0
import Derived.Test.YtjbknbgdfhihcaaVy0
namespace Go.Sep
open Go.Proofs
set_option linter.unusedSimpArgs false
set_option linter.unusedVariables false
set_option maxRecDepth 100000
open Nat renaming reduceAdd → qA, reduceMul → qB, reduceEqDiff → qC, reduceBEq → qD
open Int renaming reduceToNat → qE, reduceEq → qF, reduceLT → qG, reduceLE → qH
def m205 : MFn := ⟨39, [.t 2], .seq (xr [xF 2]) (.seq (xr [xv 6 0, xe 7 6, xv 3 7]) (.seq (.seq (xr [xv 8 3, xc3 9 64 (.t 8) (xi 1) (xi 800), xo 10 (.un .«not» (.t 9))]) (.cond 10 (.seq (xr [xF 2]) (.ret)) (.skip))) (.seq (.seq (xr [xo 4 (.mv (xi 0))]) (.blk 0 (.loop (.seq (.seq (xr [xv 11 4, xv 12 3, xo 13 (.bin .lss (.t 11) (.t 12))]) (.cond 13 (.skip) (.exit 0))) (.seq (.blk 1 (.seq (xr [xv 16 0, xv 17 4, xo 18 (.iad 5 (.t 16) (.t 17)), xm 19 5 18, xv 20 3, xc2 21 261 (.t 19) (.t 20), xo 22 (.un .«not» (.t 21))]) (.cond 22 (.seq (xr [xF 2]) (.ret)) (.skip)))) (xr [xv 14 4, xo 15 (.bin .add (.t 14) (xi 1)), xv 4 15])))))) (.seq (xr [xv 23 0, xv 24 3, xo 25 (.bin .sub (.t 24) (xi 1)), xo 26 (.iad 5 (.t 23) (.t 25)), xa 27 0 26, xl 28 27, xv 5 28]) (.seq (xr [xv 29 5, xo 30 (.bin .eql (.t 29) (xi 10)), xv 31 30, xg 32 (.mv (.t 5)) 31 false, xg 33 (.bin .eql (.t 32) (xi 12)) 31 false, xo 34 (.pick (.t 31) (.c (.bool true)) (.t 33)), xv 35 34, xg 36 (.mv (.t 5)) 35 false, xg 37 (.bin .eql (.t 36) (xi 13)) 35 false, xo 38 (.pick (.t 35) (.c (.bool true)) (.t 37)), xv 2 38]) (.ret))))))⟩
def m209 : MFn := ⟨39, [.t 2], .seq (xr [xF 2]) (.seq (.seq (xr [xv 6 0, xe 7 6, xc3 8 59 (.t 7) (xi 1) (xi 800), xo 9 (.un .«not» (.t 8))]) (.cond 9 (.seq (xr [xF 2]) (.ret)) (.skip))) (.seq (.seq (xr [xv 10 0, xe 11 10, xo 12 (.mv (xi 0))]) (.blk 0 (.loop (.seq (xr [xo 13 (.bin .lss (.t 12) (.t 11))]) (.seq (.cond 13 (.skip) (.exit 0)) (.seq (.blk 1 (.seq (xr [xo 14 (.iad 5 (.t 10) (.t 12)), xm 15 5 14, xo 4 (.alloc [xz, xz, xz, xz, xz]), ⟨none, .store 5 (.t 4) (.t 15), none⟩]) (.seq (xr [xm 16 5 4, xv 17 0, xe 18 17, xc2 19 268 (.t 16) (.t 18), xo 20 (.un .«not» (.t 19))]) (.cond 20 (.seq (xr [xF 2]) (.ret)) (.skip))))) (xr [xo 21 (.bin .add (.t 12) (xi 1)), xv 12 21]))))))) (.seq (xr [xv 22 0, xv 23 0, xe 24 23, xo 25 (.bin .sub (.t 24) (xi 1)), xo 26 (.iad 5 (.t 22) (.t 25)), xa 27 0 26, xl 28 27, xv 5 28]) (.seq (xr [xv 29 5, xo 30 (.bin .eql (.t 29) (xi 10)), xv 31 30, xg 32 (.mv (.t 5)) 31 false, xg 33 (.bin .eql (.t 32) (xi 12)) 31 false, xo 34 (.pick (.t 31) (.c (.bool true)) (.t 33)), xv 35 34, xg 36 (.mv (.t 5)) 35 false, xg 37 (.bin .eql (.t 36) (xi 13)) 35 false, xo 38 (.pick (.t 35) (.c (.bool true)) (.t 37)), xv 2 38]) (.ret)))))⟩
def lastSt (l : List Step) : Int := (l.getD (l.length - 1) default).op
def codeOk (l : List Step) : Bool := within l.length 1 800 && l.all (fun s => stepOk s l.length) && (decide (lastSt l = 10) || decide (lastSt l = 12) || decide (lastSt l = 13))
set_option maxHeartbeats 2000000 in
theorem implCodeOk_ok (l : List Step) (hl : l.length < 2 ^ 40) : CallOk Try.prog num 209 [.sl .bw 5 (steps l)] [] (.bool (codeOk l)) := by
 refine EN m209 Try.func77 ?_
 unfold m209
 simp only [go_sem, qA, qB, qC, qD, qE, qF, qG, qH]
 repeat refine K ?_
 refine CA [] (qAv l.length 1 800) ?_
 try simp only [go_sem, qA, qB, qC, qD, qE, qF, qG, qH]
 repeat refine K ?_
 cases hw2 : within l.length 1 800
 ·try simp only [go_sem, qA, qB, qC, qD, qE, qF, qG, qH, hw2]
  repeat refine K ?_
  refine fz ?_; simp [FinS, nilL, nilV, oneOr, -List.drop_one]
  simp [codeOk, hw2]
 try simp only [go_sem, qA, qB, qC, qD, qE, qF, qG, qH, hw2]
 repeat refine K ?_
 refine qA7 (ι := Nat) (fun i => .mk [(0, .sl .bw 5 (steps l)), (10, .sl .bw 5 (steps l)), (11, .int .i64 l.length), (12, .int .i64 i)] [] 10) (fun i => i ≤ l.length ∧ (l.take i).all (fun x => stepOk x l.length) = true) (fun i => l.length - i) 0 (by simp) ?_ ?_
 ·refine Sub.shape [] id (by omega) ?_ ?_ ?_ ?_ <;> simp [qA3]
 ·rintro i ⟨hi, hp⟩
  simp only [go_sem, qA, qB, qC, qD, qE, qF, qG, qH]
  refine qA2 (fun hc => ?_) (fun hc => ?_)
  ·simp only [decide_eq_true_eq] at hc
   have hl' : i < l.length := by omega
   simp only [go_sem, qA, qB, qC, qD, qE, qF, qG, qH, qB7 l i hl']
   repeat refine K ?_
   refine CA [] (implStepOk_ok (l.getD i default) l.length) ?_
   try simp only [go_sem, qA, qB, qC, qD, qE, qF, qG, qH]
   repeat refine K ?_
   cases hw3 : stepOk (l.getD i default) l.length
   ·try simp only [go_sem, qA, qB, qC, qD, qE, qF, qG, qH, hw3]
    repeat refine K ?_
    refine fz ?_; simp [FinS, nilL, nilV, oneOr, -List.drop_one]
    simp only [codeOk]
    rw [all_stop (p := fun x => stepOk x l.length) hl' hw3]
    simp
   ·try simp only [go_sem, qA, qB, qC, qD, qE, qF, qG, qH, hw3, qA6 (i := i) (by omega)]
    repeat refine K ?_
    refine qA8 (i + 1) (Sub.shape [] id (by omega) ?_ ?_ ?_ ?_) ?_ ?_
    any_goals (first | omega | (simp [qA3]; done))
    exact ⟨hl', all_step (p := fun x => stepOk x l.length) hp hl' hw3⟩
  ·simp only [decide_eq_false_iff_not] at hc
   have hlen : 1 ≤ l.length := by rw [within_iff] at hw2; omega
   have ht : Int.toNat ((l.length : Int) - 1) = l.length - 1 := by omega
   have hwr : IntKind.i64.wrap ((l.length : Int) - 1) = (l.length : Int) - 1 := qAs (by omega) (by omega)
   have he := all_end hp hc
   simp only [go_sem, qA, qB, qC, qD, qE, qF, qG, qH, hwr, ht, qB7 l (l.length - 1) (by omega)]
   repeat refine K ?_
   by_cases hx : (l.getD (l.length - 1) default).op = 10
   ·try simp only [go_sem, qA, qB, qC, qD, qE, qF, qG, qH, hx]
    repeat refine K ?_
    refine fz ?_; simp [FinS, nilL, nilV, oneOr, -List.drop_one]
    simp only [codeOk, hw2, he, lastSt, hx]
    rfl
   by_cases hy : (l.getD (l.length - 1) default).op = 12
   ·try simp only [go_sem, qA, qB, qC, qD, qE, qF, qG, qH, hx, hy]
    repeat refine K ?_
    refine fz ?_; simp [FinS, nilL, nilV, oneOr, -List.drop_one]
    simp only [codeOk, hw2, he, lastSt, hy]
    rfl
   try simp only [go_sem, qA, qB, qC, qD, qE, qF, qG, qH, hx, hy]
   repeat refine K ?_
   refine fz ?_; simp [FinS, nilL, nilV, oneOr, -List.drop_one]
   simp only [codeOk, hw2, he, lastSt, hx, hy]
   simp
set_option maxHeartbeats 2000000 in
theorem specCodeOk_ok (l : List Step) (hl : l.length < 2 ^ 40) : CallOk Try.prog num 205 [.sl .bw 5 (steps l)] [] (.bool (codeOk l)) := by
 refine EN m205 Try.func63 ?_
 unfold m205
 simp only [go_sem, qA, qB, qC, qD, qE, qF, qG, qH]
 repeat refine K ?_
 refine CA [] (qAy l.length 1 800) ?_
 try simp only [go_sem, qA, qB, qC, qD, qE, qF, qG, qH]
 repeat refine K ?_
 cases hw2 : within l.length 1 800
 ·try simp only [go_sem, qA, qB, qC, qD, qE, qF, qG, qH, hw2]
  repeat refine K ?_
  refine fz ?_; simp [FinS, nilL, nilV, oneOr, -List.drop_one]
  simp [codeOk, hw2]
 try simp only [go_sem, qA, qB, qC, qD, qE, qF, qG, qH, hw2]
 repeat refine K ?_
 refine qA7 (ι := Nat) (fun i => .mk [(0, .sl .bw 5 (steps l)), (3, .int .i64 l.length), (4, .int .i64 i)] [] 10) (fun i => i ≤ l.length ∧ (l.take i).all (fun x => stepOk x l.length) = true) (fun i => l.length - i) 0 (by simp) ?_ ?_
 ·refine Sub.shape [] id (by omega) ?_ ?_ ?_ ?_ <;> simp [qA3]
 ·rintro i ⟨hi, hp⟩
  simp only [go_sem, qA, qB, qC, qD, qE, qF, qG, qH]
  refine qA2 (fun hc => ?_) (fun hc => ?_)
  ·simp only [decide_eq_true_eq] at hc
   have hl' : i < l.length := by omega
   simp only [go_sem, qA, qB, qC, qD, qE, qF, qG, qH, qB7 l i hl']
   repeat refine K ?_
   refine CA [] (specStepOk_ok (l.getD i default) l.length) ?_
   try simp only [go_sem, qA, qB, qC, qD, qE, qF, qG, qH]
   repeat refine K ?_
   cases hw3 : stepOk (l.getD i default) l.length
   ·try simp only [go_sem, qA, qB, qC, qD, qE, qF, qG, qH, hw3]
    repeat refine K ?_
    refine fz ?_; simp [FinS, nilL, nilV, oneOr, -List.drop_one]
    simp only [codeOk]
    rw [all_stop (p := fun x => stepOk x l.length) hl' hw3]
    simp
   ·try simp only [go_sem, qA, qB, qC, qD, qE, qF, qG, qH, hw3, qA6 (i := i) (by omega)]
    repeat refine K ?_
    refine qA8 (i + 1) (Sub.shape [] id (by omega) ?_ ?_ ?_ ?_) ?_ ?_
    any_goals (first | omega | (simp [qA3]; done))
    exact ⟨hl', all_step (p := fun x => stepOk x l.length) hp hl' hw3⟩
  ·simp only [decide_eq_false_iff_not] at hc
   have hlen : 1 ≤ l.length := by rw [within_iff] at hw2; omega
   have ht : Int.toNat ((l.length : Int) - 1) = l.length - 1 := by omega
   have hwr : IntKind.i64.wrap ((l.length : Int) - 1) = (l.length : Int) - 1 := qAs (by omega) (by omega)
   have he := all_end hp hc
   simp only [go_sem, qA, qB, qC, qD, qE, qF, qG, qH, hwr, ht, qB7 l (l.length - 1) (by omega)]
   repeat refine K ?_
   by_cases hx : (l.getD (l.length - 1) default).op = 10
   ·try simp only [go_sem, qA, qB, qC, qD, qE, qF, qG, qH, hx]
    repeat refine K ?_
    refine fz ?_; simp [FinS, nilL, nilV, oneOr, -List.drop_one]
    simp only [codeOk, hw2, he, lastSt, hx]
    rfl
   by_cases hy : (l.getD (l.length - 1) default).op = 12
   ·try simp only [go_sem, qA, qB, qC, qD, qE, qF, qG, qH, hx, hy]
    repeat refine K ?_
    refine fz ?_; simp [FinS, nilL, nilV, oneOr, -List.drop_one]
    simp only [codeOk, hw2, he, lastSt, hy]
    rfl
   try simp only [go_sem, qA, qB, qC, qD, qE, qF, qG, qH, hx, hy]
   repeat refine K ?_
   refine fz ?_; simp [FinS, nilL, nilV, oneOr, -List.drop_one]
   simp only [codeOk, hw2, he, lastSt, hx, hy]
   simp
end Go.Sep
