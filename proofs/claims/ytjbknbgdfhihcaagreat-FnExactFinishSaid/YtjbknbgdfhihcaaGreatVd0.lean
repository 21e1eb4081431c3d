/- Contracts of functions. -/
import Derived.Test.YtjbknbgdfhihcaaGreatVb0
import Derived.Test.YtjbknbgdfhihcaaGreatVc0
namespace Go.Sep
open Go.Proofs
set_option linter.unusedSimpArgs false
set_option linter.unusedVariables false
set_option maxRecDepth 100000
open Nat renaming reduceAdd → qA, reduceMul → qB, reduceEqDiff → qC, reduceBEq → qD
open Int renaming reduceToNat → qE, reduceEq → qF, reduceLT → qG, reduceLE → qH
def m48 : MFn := ⟨34, [.t 2], .seq (xr [xb 1 0, xF 2]) (.seq (.seq (xr [xa 5 1 1, xl 6 5, xe 7 6, xo 8 (.mv (xi 0))]) (.blk 0 (.loop (.seq (xr [xo 9 (.bin .lss (.t 8) (.t 7))]) (.seq (.cond 9 (.skip) (.exit 0)) (.seq (.blk 1 (.seq (xr [xo 10 (.iad 1 (.t 6) (.t 8)), xl 11 10, xv 4 11]) (.seq (xr [xv 12 4, xa 13 0 1, xl 14 13, xe 15 14, xc2 16 67 (.t 12) (.t 15), xo 17 (.un .«not» (.t 16))]) (.cond 17 (.seq (xr [xF 2]) (.ret)) (.skip))))) (xr [xo 18 (.bin .add (.t 8) (xi 1)), xv 8 18]))))))) (.seq (xr [xa 19 0 1, xl 20 19, xe 21 20, xo 22 (.bin .leq (.t 21) (xi 3)), xv 23 22, xg 24 (.fad 0 (.t 1)) 23 true, xg 25 (.load 1 false (.t 24)) 23 true, xg 26 (.call 68 [false] [.t 25]) 23 true, xo 27 (.pick (.t 23) (.t 26) (.c (.bool false))), xv 28 27, xg 29 (.fad 1 (.t 1)) 28 true, xg 30 (.load 1 false (.t 29)) 28 true, xg 31 (.len (.t 30)) 28 true, xg 32 (.call 59 [false, false, false] [.t 31, xi 1, xi 4]) 28 true, xo 33 (.pick (.t 28) (.t 32) (.c (.bool false))), xv 2 33]) (.ret)))⟩
def m62 : MFn := ⟨46, [.t 2], .seq (xr [xb 1 0, xF 2]) (.seq (.seq (xr [xo 3 (.mv (xi 0))]) (.blk 0 (.loop (.seq (.seq (xr [xv 5 3, xa 6 0 1, xl 7 6, xe 8 7, xo 9 (.bin .lss (.t 5) (.t 8))]) (.cond 9 (.skip) (.exit 0))) (.seq (.blk 1 (.seq (xr [xa 12 0 1, xl 13 12, xv 14 3, xo 15 (.iad 1 (.t 13) (.t 14)), xl 16 15, xc3 17 64 (.t 16) (xi 1) (xi 4), xo 18 (.un .«not» (.t 17))]) (.cond 18 (.seq (xr [xF 2]) (.ret)) (.skip)))) (xr [xv 10 3, xo 11 (.bin .add (.t 10) (xi 1)), xv 3 11])))))) (.seq (.seq (xr [xo 4 (.mv (xi 0))]) (.blk 2 (.loop (.seq (.seq (xr [xv 19 4, xa 20 1 1, xl 21 20, xe 22 21, xo 23 (.bin .lss (.t 19) (.t 22))]) (.cond 23 (.skip) (.exit 2))) (.seq (.blk 3 (.seq (.dreg (.take 0 (xa 26 1 1) (.take 1 (xl 27 26) (.take 2 (xv 28 4) (.take 3 (xo 29 (.iad 1 (.t 27) (.t 28))) (.take 4 (xl 30 29) (.only 5 [] (xa 31 0 1) (.only 6 [] (xl 32 31) (.only 7 [] (xe 33 32) (.only 8 [4, 3, 1, 2, 0] (xc2 34 82 (.t 30) (.t 33)) (.only 9 [8, 4, 3, 1, 2, 0] (xo 35 (.un .«not» (.t 34))) (.done)))))))))))) (.cond 35 (.seq (xr [xF 2]) (.ret)) (.skip)))) (xr [xv 24 4, xo 25 (.bin .add (.t 24) (xi 1)), xv 4 25])))))) (.seq (xr [xa 36 0 1, xl 37 36, xe 38 37, xo 39 (.bin .leq (.t 38) (xi 3)), xv 40 39, xg 41 (.fad 1 (.t 1)) 40 true, xg 42 (.load 1 false (.t 41)) 40 true, xg 43 (.len (.t 42)) 40 true, xg 44 (.call 64 [false, false, false] [.t 43, xi 1, xi 4]) 40 true, xo 45 (.pick (.t 40) (.t 44) (.c (.bool false))), xv 2 45]) (.ret))))⟩
def m67 : MFn := ⟨43, [.t 4], .seq (xr [xF 4]) (.seq (.seq (xr [xv 8 1, xc3 9 59 (.t 8) (xi 0) (xi 3), xo 10 (.un .«not» (.t 9)), xv 11 10, xg 12 (.mv (.t 0)) 11 false, xg 13 (.len (.t 12)) 11 false, xg 14 (.call 59 [false, false, false] [.t 13, xi 1, xi 24]) 11 false, xg 15 (.un .«not» (.t 14)) 11 false, xo 16 (.pick (.t 11) (.c (.bool true)) (.t 15))]) (.cond 16 (.seq (xr [xF 4]) (.ret)) (.skip))) (.seq (.seq (xr [xv 17 0, xe 18 17, xo 19 (.mv (xi 0))]) (.blk 0 (.loop (.seq (xr [xo 20 (.bin .lss (.t 19) (.t 18))]) (.seq (.cond 20 (.skip) (.exit 0)) (.seq (.blk 1 (.seq (xr [xo 21 (.iad 5 (.t 17) (.t 19)), xm 22 5 21, xo 6 (.alloc [xz, xz, xz, xz, xz]), ⟨none, .store 5 (.t 6) (.t 22), none⟩]) (.seq (xr [xm 23 5 6, xv 24 0, xe 25 24, xv 26 1, xc3 27 88 (.t 23) (.t 25) (.t 26), xo 28 (.un .«not» (.t 27))]) (.cond 28 (.seq (xr [xF 4]) (.ret)) (.skip))))) (xr [xo 29 (.bin .add (.t 19) (xi 1)), xv 19 29]))))))) (.seq (xr [xv 30 0, xv 31 0, xe 32 31, xo 33 (.bin .sub (.t 32) (xi 1)), xo 34 (.iad 5 (.t 30) (.t 33)), xa 35 0 34, xl 36 35, xv 7 36]) (.seq (xr [xv 37 7, xo 38 (.bin .eql (.t 37) (xi 13)), xv 39 38, xg 40 (.mv (.t 7)) 39 false, xg 41 (.bin .eql (.t 40) (xi 11)) 39 false, xo 42 (.pick (.t 39) (.c (.bool true)) (.t 41)), xv 4 42]) (.ret)))))⟩
def m68 : MFn := ⟨15, [.t 2], .seq (xr [xF 2]) (.seq (.seq (xr [xv 5 0, xe 6 5, xo 7 (.mv (xi 0))]) (.blk 0 (.loop (.seq (xr [xo 8 (.bin .lss (.t 7) (.t 6))]) (.seq (.cond 8 (.skip) (.exit 0)) (.seq (.blk 1 (.seq (xr [xo 9 (.iad 1 (.t 5) (.t 7)), xl 10 9, xv 4 10]) (.seq (xr [xv 11 4, xc3 12 59 (.t 11) (xi 1) (xi 4), xo 13 (.un .«not» (.t 12))]) (.cond 13 (.seq (xr [xF 2]) (.ret)) (.skip))))) (xr [xo 14 (.bin .add (.t 7) (xi 1)), xv 7 14]))))))) (.seq (xr [xT 2]) (.ret)))⟩
def m82 : MFn := ⟨46, [.t 4], .seq (xr [xF 4]) (.seq (xr [xv 7 0, xe 8 7, xv 5 8]) (.seq (.seq (xr [xo 6 (.mv (xi 0))]) (.blk 0 (.loop (.seq (.seq (xr [xv 9 6, xv 10 5, xo 11 (.bin .lss (.t 9) (.t 10))]) (.cond 11 (.skip) (.exit 0))) (.seq (.blk 1 (.seq (xr [xv 14 0, xv 15 6, xo 16 (.iad 5 (.t 14) (.t 15)), xm 17 5 16, xv 18 5, xv 19 1, xc3 20 92 (.t 17) (.t 18) (.t 19), xo 21 (.un .«not» (.t 20))]) (.cond 21 (.seq (xr [xF 4]) (.ret)) (.skip)))) (xr [xv 12 6, xo 13 (.bin .add (.t 12) (xi 1)), xv 6 13])))))) (.seq (xr [xv 22 5, xc3 23 64 (.t 22) (xi 1) (xi 24), xv 24 23, xg 25 (.mv (.t 1)) 24 true, xg 26 (.call 64 [false, false, false] [.t 25, xi 0, xi 3]) 24 true, xo 27 (.pick (.t 24) (.t 26) (.c (.bool false))), xv 28 27, xg 29 (.mv (.t 0)) 28 true, xg 30 (.mv (.t 5)) 28 true, xg 31 (.bin .sub (.t 30) (xi 1)) 28 true, xg 32 (.iad 5 (.t 29) (.t 31)) 28 true, xg 33 (.fad 0 (.t 32)) 28 true, xg 34 (.load 1 false (.t 33)) 28 true, xg 35 (.bin .eql (.t 34) (xi 13)) 28 true, xg 36 (.mv (.t 35)) 28 true, xg 37 (.mv (.t 0)) 36 false, xg 38 (.mv (.t 5)) 36 false, xg 39 (.bin .sub (.t 38) (xi 1)) 36 false, xg 40 (.iad 5 (.t 37) (.t 39)) 36 false, xg 41 (.fad 0 (.t 40)) 36 false, xg 42 (.load 1 false (.t 41)) 36 false, xg 43 (.bin .eql (.t 42) (xi 11)) 36 false, xg 44 (.pick (.t 36) (.c (.bool true)) (.t 43)) 28 true, xo 45 (.pick (.t 28) (.t 44) (.c (.bool false))), xv 4 45]) (.ret))))⟩
theorem qCi {α : Type} {l : List α} {p : α → Bool} {d : α} {i : Nat} (h : (l.take i).all p = true) (hi : i < l.length) (hp : p (l.getD i d) = true) : (l.take (i + 1)).all p = true := by
 rw [List.take_succ_eq_append_getElem hi, List.all_append, h]
 have h1 : l.getD i d = l[i] := by simp [List.getD_eq_getElem?_getD, hi]
 rw [h1] at hp
 simp [hp]
theorem qC1 {α : Type} {l : List α} {p : α → Bool} {d : α} {i : Nat} (hi : i < l.length) (hp : p (l.getD i d) = false) : l.all p = false := by
 have h1 : l.getD i d = l[i] := by simp [List.getD_eq_getElem?_getD, hi]
 rw [h1] at hp
 cases h : l.all p with
 | false => rfl
 | true => rw [List.all_eq_true.1 h l[i] (List.getElem_mem hi)] at hp; exact absurd hp (by decide)
theorem all_end {α : Type} {l : List α} {p : α → Bool} {i : Nat} (h : (l.take i).all p = true) (hi : ¬ (i : Int) < l.length) : l.all p = true := by
 rw [List.take_of_length_le (by omega)] at h
 exact h
def capsOk (l : List Int) : Bool := l.all fun c => within c 1 4
theorem capsOk_ok (l : List Int) (hl : l.length < 2 ^ 47) : CallOk Tryz.prog num 68 [.sl .bw 1 (ints l)] [] (.bool (capsOk l)) := by
 refine EN m68 Tryz.func177 ?_
 unfold m68
 simp only [go_sem, qA, qB, qC, qD, qE, qF, qG, qH]
 repeat refine K ?_
 refine qA6 (ι := Nat) (fun i => .mk [(5, .sl .bw 1 (ints l)), (6, .int .i64 l.length), (7, .int .i64 i)] [] 10) (fun i => i ≤ l.length ∧ (l.take i).all (fun c => within c 1 4) = true) (fun i => l.length - i) 0 (by simp) ?_ ?_
 ·refine Sub.shape [] id (by omega) ?_ ?_ ?_ ?_ <;> simp [qA3]
 ·rintro i ⟨hi, hp⟩
  simp only [go_sem, qA, qB, qC, qD, qE, qF, qG, qH]
  refine qA1 (fun hc => ?_) (fun hc => ?_)
  ·simp only [decide_eq_true_eq] at hc
   have hl' : i < l.length := by omega
   simp only [go_sem, qA, qB, qC, qD, qE, qF, qG, qH, qA0 l i hl', qA4 (i := i) (by omega)]
   repeat refine K ?_
   refine CA [] (qAi (l.getD i 0) 1 4) ?_
   try simp only [go_sem, qA, qB, qC, qD, qE, qF, qG, qH]
   repeat refine K ?_
   cases hw : within (l.getD i 0) 1 4
   ·simp only [go_sem, qA, qB, qC, qD, qE, qF, qG, qH, hw]
    repeat refine K ?_
    refine fz ?_; simp [FinS, nilL, nilV, oneOr, -List.drop_one]
    simp only [capsOk]
    exact qC1 hl' hw
   ·simp only [go_sem, qA, qB, qC, qD, qE, qF, qG, qH, hw, qA4 (i := i) (by omega)]
    repeat refine K ?_
    refine qA5 (i + 1) (Sub.shape [] id (by omega) ?_ ?_ ?_ ?_) ?_ ?_
    any_goals (first | omega | (simp [qA3]; done))
    exact ⟨hl', qCi hp hl' hw⟩
  ·simp only [decide_eq_false_iff_not] at hc
   simp only [go_sem, qA, qB, qC, qD, qE, qF, qG, qH]
   repeat refine K ?_
   refine fz ?_; simp [FinS, nilL, nilV, oneOr, -List.drop_one]
   exact all_end hp hc
def lastOp (l : List Ins) : Int := (l.getD (l.length - 1) default).op
def bodyOk (l : List Ins) (ch : Int) : Bool := within ch 0 3 && within l.length 1 24 && l.all (fun x => insOk x l.length ch) && (decide (lastOp l = 13) || decide (lastOp l = 11))
theorem implBodyOk_ok (l : List Ins) (ch : Int) (hl : l.length < 2 ^ 47) (h0 : 0 ≤ ch) (h1 : ch < 2 ^ 62) : CallOk Tryz.prog num 67 [.sl .bw 5 (inss l), .int .i64 ch] [] (.bool (bodyOk l ch)) := by
 refine EN m67 Tryz.func176 ?_
 unfold m67
 simp only [go_sem, qA, qB, qC, qD, qE, qF, qG, qH]
 repeat refine K ?_
 refine CA [] (qAi ch 0 3) ?_
 try simp only [go_sem, qA, qB, qC, qD, qE, qF, qG, qH]
 repeat refine K ?_
 cases hw : within ch 0 3
 ·simp only [go_sem, qA, qB, qC, qD, qE, qF, qG, qH, hw]
  repeat refine K ?_
  refine fz ?_; simp [FinS, nilL, nilV, oneOr, -List.drop_one]
  simp [bodyOk, hw]
 ·simp only [go_sem, qA, qB, qC, qD, qE, qF, qG, qH, hw]
  repeat refine K ?_
  refine CA [] (qAi l.length 1 24) ?_
  try simp only [go_sem, qA, qB, qC, qD, qE, qF, qG, qH]
  repeat refine K ?_
  cases hw2 : within l.length 1 24
  ·simp only [go_sem, qA, qB, qC, qD, qE, qF, qG, qH, hw2]
   repeat refine K ?_
   refine fz ?_; simp [FinS, nilL, nilV, oneOr, -List.drop_one]
   simp [bodyOk, hw, hw2]
  ·simp only [go_sem, qA, qB, qC, qD, qE, qF, qG, qH, hw2]
   repeat refine K ?_
   refine qA6 (ι := Nat) (fun i => .mk [(0, .sl .bw 5 (inss l)), (1, .int .i64 ch), (17, .sl .bw 5 (inss l)), (18, .int .i64 l.length), (19, .int .i64 i)] [] 10) (fun i => i ≤ l.length ∧ (l.take i).all (fun x => insOk x l.length ch) = true) (fun i => l.length - i) 0 (by simp) ?_ ?_
   ·refine Sub.shape [] id (by omega) ?_ ?_ ?_ ?_ <;> simp [qA3]
   ·rintro i ⟨hi, hp⟩
    simp only [go_sem, qA, qB, qC, qD, qE, qF, qG, qH]
    refine qA1 (fun hc => ?_) (fun hc => ?_)
    ·simp only [decide_eq_true_eq] at hc
     have hl' : i < l.length := by omega
     simp only [go_sem, qA, qB, qC, qD, qE, qF, qG, qH, qBo l i hl']
     repeat refine K ?_
     refine CA [] (implInsOk_ok (l.getD i default) l.length ch (by omega) (by omega) (by omega) (by omega)) ?_
     try simp only [go_sem, qA, qB, qC, qD, qE, qF, qG, qH]
     repeat refine K ?_
     cases hw3 : insOk (l.getD i default) l.length ch
     ·simp only [go_sem, qA, qB, qC, qD, qE, qF, qG, qH, hw3]
      repeat refine K ?_
      refine fz ?_; simp [FinS, nilL, nilV, oneOr, -List.drop_one]
      simp only [bodyOk]
      rw [qC1 (p := fun x => insOk x l.length ch) hl' hw3]
      simp
     ·simp only [go_sem, qA, qB, qC, qD, qE, qF, qG, qH, hw3, qA4 (i := i) (by omega)]
      repeat refine K ?_
      refine qA5 (i + 1) (Sub.shape [] id (by omega) ?_ ?_ ?_ ?_) ?_ ?_
      any_goals (first | omega | (simp [qA3]; done))
      exact ⟨hl', qCi (p := fun x => insOk x l.length ch) hp hl' hw3⟩
    ·simp only [decide_eq_false_iff_not] at hc
     have hlen : 1 ≤ l.length := by rw [within_iff] at hw2; omega
     have ht : Int.toNat ((l.length : Int) - 1) = l.length - 1 := by omega
     have hwr : IntKind.i64.wrap ((l.length : Int) - 1) = (l.length : Int) - 1 := qAl (by omega) (by omega)
     simp only [go_sem, qA, qB, qC, qD, qE, qF, qG, qH, hwr, ht, qBo l (l.length - 1) (by omega)]
     repeat refine K ?_
     have he := all_end hp hc
     by_cases hx : (l.getD (l.length - 1) default).op = 13
     ·simp only [go_sem, qA, qB, qC, qD, qE, qF, qG, qH, hx]
      repeat refine K ?_
      refine fz ?_; simp [FinS, nilL, nilV, oneOr, -List.drop_one]
      simp only [bodyOk, hw, hw2, he, lastOp, hx]
      rfl
     ·simp only [go_sem, qA, qB, qC, qD, qE, qF, qG, qH, hx]
      repeat refine K ?_
      refine fz ?_; simp [FinS, nilL, nilV, oneOr, -List.drop_one]
      simp only [bodyOk, hw, hw2, he, lastOp, hx]
      simp
theorem specBodyOk_ok (l : List Ins) (ch : Int) (hl : l.length < 2 ^ 47) (h0 : 0 ≤ ch) (h1 : ch < 2 ^ 62) : CallOk Tryz.prog num 82 [.sl .bw 5 (inss l), .int .i64 ch] [] (.bool (bodyOk l ch)) := by
 refine EN m82 Tryz.func168 ?_
 unfold m82
 simp only [go_sem, qA, qB, qC, qD, qE, qF, qG, qH]
 repeat refine K ?_
 refine qA6 (ι := Nat) (fun i => .mk [(0, .sl .bw 5 (inss l)), (1, .int .i64 ch), (5, .int .i64 l.length), (6, .int .i64 i)] [] 10) (fun i => i ≤ l.length ∧ (l.take i).all (fun x => insOk x l.length ch) = true) (fun i => l.length - i) 0 (by simp) ?_ ?_
 ·refine Sub.shape [] id (by omega) ?_ ?_ ?_ ?_ <;> simp [qA3]
 ·rintro i ⟨hi, hp⟩
  simp only [go_sem, qA, qB, qC, qD, qE, qF, qG, qH]
  refine qA1 (fun hc => ?_) (fun hc => ?_)
  ·simp only [decide_eq_true_eq] at hc
   have hl' : i < l.length := by omega
   simp only [go_sem, qA, qB, qC, qD, qE, qF, qG, qH, qBo l i hl']
   repeat refine K ?_
   refine CA [] (specInsOk_ok (l.getD i default) l.length ch (by omega) (by omega)) ?_
   try simp only [go_sem, qA, qB, qC, qD, qE, qF, qG, qH]
   repeat refine K ?_
   cases hw3 : insOk (l.getD i default) l.length ch
   ·simp only [go_sem, qA, qB, qC, qD, qE, qF, qG, qH, hw3]
    repeat refine K ?_
    refine fz ?_; simp [FinS, nilL, nilV, oneOr, -List.drop_one]
    simp only [bodyOk]
    rw [qC1 (p := fun x => insOk x l.length ch) hl' hw3]
    simp
   ·simp only [go_sem, qA, qB, qC, qD, qE, qF, qG, qH, hw3, qA4 (i := i) (by omega)]
    repeat refine K ?_
    refine qA5 (i + 1) (Sub.shape [] id (by omega) ?_ ?_ ?_ ?_) ?_ ?_
    any_goals (first | omega | (simp [qA3]; done))
    exact ⟨hl', qCi (p := fun x => insOk x l.length ch) hp hl' hw3⟩
  ·simp only [decide_eq_false_iff_not] at hc
   have he := all_end hp hc
   simp only [go_sem, qA, qB, qC, qD, qE, qF, qG, qH]
   repeat refine K ?_
   refine CA [] (qAr l.length 1 24) ?_
   try simp only [go_sem, qA, qB, qC, qD, qE, qF, qG, qH]
   repeat refine K ?_
   cases hw2 : within l.length 1 24
   ·simp only [go_sem, qA, qB, qC, qD, qE, qF, qG, qH, hw2]
    repeat refine K ?_
    refine fz ?_; simp [FinS, nilL, nilV, oneOr, -List.drop_one]
    simp [bodyOk, hw2]
   ·simp only [go_sem, qA, qB, qC, qD, qE, qF, qG, qH, hw2]
    repeat refine K ?_
    refine CA [] (qAr ch 0 3) ?_
    try simp only [go_sem, qA, qB, qC, qD, qE, qF, qG, qH]
    repeat refine K ?_
    cases hw : within ch 0 3
    ·simp only [go_sem, qA, qB, qC, qD, qE, qF, qG, qH, hw]
     repeat refine K ?_
     refine fz ?_; simp [FinS, nilL, nilV, oneOr, -List.drop_one]
     simp [bodyOk, hw, hw2]
    ·have hlen : 1 ≤ l.length := by rw [within_iff] at hw2; omega
     have ht : Int.toNat ((l.length : Int) - 1) = l.length - 1 := by omega
     have hwr : IntKind.i64.wrap ((l.length : Int) - 1) = (l.length : Int) - 1 := qAl (by omega) (by omega)
     simp only [go_sem, qA, qB, qC, qD, qE, qF, qG, qH, hw, hwr, ht, qBo l (l.length - 1) (by omega)]
     repeat refine K ?_
     by_cases hx : (l.getD (l.length - 1) default).op = 13
     ·simp only [go_sem, qA, qB, qC, qD, qE, qF, qG, qH, hx]
      repeat refine K ?_
      refine fz ?_; simp [FinS, nilL, nilV, oneOr, -List.drop_one]
      simp only [bodyOk, hw, hw2, he, lastOp, hx]
      rfl
     ·simp only [go_sem, qA, qB, qC, qD, qE, qF, qG, qH, hx, hwr, ht, qBo l (l.length - 1) (by omega)]
      repeat refine K ?_
      refine fz ?_; simp [FinS, nilL, nilV, oneOr, -List.drop_one]
      simp only [bodyOk, hw, hw2, he, lastOp, hx]
      simp
def progOk (p : Prog) : Bool := p.bods.all (fun b => bodyOk b p.caps.length) && decide ((p.caps.length : Int) ≤ 3) && capsOk p.caps && within p.bods.length 1 4
theorem implProgOk_ok (p : Prog) (h1 : p.caps.length < 2 ^ 47) (h2 : p.bods.length < 2 ^ 47) (h3 : ∀ b ∈ p.bods, b.length < 2 ^ 47) : CallOk Tryz.prog num 48 [.agg (progC .bw p)] [] (.bool (progOk p)) := by
 refine EN m48 Tryz.func97 ?_
 unfold m48
 simp only [go_sem, qA, qB, qC, qD, qE, qF, qG, qH]
 repeat refine K ?_
 refine qA6 (ι := Nat) (fun i => .mk [(1, .ptr 10 0 0), (6, .sl .bw 1 (bodies .bw p.bods)), (7, .int .i64 p.bods.length), (8, .int .i64 i)] [(10, 2, [progC .bw p])] 11) (fun i => i ≤ p.bods.length ∧ (p.bods.take i).all (fun b => bodyOk b p.caps.length) = true) (fun i => p.bods.length - i) 0 (by simp) ?_ ?_
 ·refine Sub.shape [] id (by omega) ?_ ?_ ?_ ?_ <;> simp [qA3]
 ·rintro i ⟨hi, hp⟩
  simp only [go_sem, qA, qB, qC, qD, qE, qF, qG, qH]
  refine qA1 (fun hc => ?_) (fun hc => ?_)
  ·simp only [decide_eq_true_eq] at hc
   have hl' : i < p.bods.length := by omega
   have hb : (p.bods.getD i []).length < 2 ^ 47 := h3 _ (by simp [List.getD_eq_getElem?_getD, hl'])
   simp only [go_sem, qA, qB, qC, qD, qE, qF, qG, qH, qBp .bw p.bods i hl']
   repeat refine K ?_
   refine CA [] (implBodyOk_ok (p.bods.getD i []) p.caps.length hb (by omega) (by omega)) ?_
   try simp only [go_sem, qA, qB, qC, qD, qE, qF, qG, qH]
   repeat refine K ?_
   cases hw : bodyOk (p.bods.getD i []) p.caps.length
   ·simp only [go_sem, qA, qB, qC, qD, qE, qF, qG, qH, hw]
    repeat refine K ?_
    refine fz ?_; simp [FinS, nilL, nilV, oneOr, -List.drop_one]
    simp only [progOk]
    rw [qC1 (p := fun b => bodyOk b p.caps.length) hl' hw]
    simp
   ·simp only [go_sem, qA, qB, qC, qD, qE, qF, qG, qH, hw, qA4 (i := i) (by omega)]
    repeat refine K ?_
    refine qA5 (i + 1) (Sub.shape [] id (by omega) ?_ ?_ ?_ ?_) ?_ ?_
    any_goals (first | omega | (simp [qA3]; done))
    exact ⟨hl', qCi (p := fun b => bodyOk b p.caps.length) hp hl' hw⟩
  ·simp only [decide_eq_false_iff_not] at hc
   have he := all_end hp hc
   simp only [go_sem, qA, qB, qC, qD, qE, qF, qG, qH]
   repeat refine K ?_
   by_cases hx : (p.caps.length : Int) ≤ 3
   ·simp only [go_sem, qA, qB, qC, qD, qE, qF, qG, qH, hx]
    repeat refine K ?_
    refine CA [] (capsOk_ok p.caps h1) ?_
    try simp only [go_sem, qA, qB, qC, qD, qE, qF, qG, qH]
    repeat refine K ?_
    cases hw : capsOk p.caps
    ·simp only [go_sem, qA, qB, qC, qD, qE, qF, qG, qH, hw]
     repeat refine K ?_
     refine fz ?_; simp [FinS, nilL, nilV, oneOr, -List.drop_one]
     simp [progOk, hw]
    ·simp only [go_sem, qA, qB, qC, qD, qE, qF, qG, qH, hw]
     repeat refine K ?_
     refine CA [] (qAi p.bods.length 1 4) ?_
     try simp only [go_sem, qA, qB, qC, qD, qE, qF, qG, qH]
     repeat refine K ?_
     refine fz ?_; simp [FinS, nilL, nilV, oneOr, -List.drop_one]
     simp only [progOk, he, hw, hx]
     simp
   ·simp only [go_sem, qA, qB, qC, qD, qE, qF, qG, qH, hx]
    repeat refine K ?_
    refine fz ?_; simp [FinS, nilL, nilV, oneOr, -List.drop_one]
    simp [progOk, hx]
theorem specProgOk_ok (p : Prog) (h1 : p.caps.length < 2 ^ 47) (h2 : p.bods.length < 2 ^ 47) (h3 : ∀ b ∈ p.bods, b.length < 2 ^ 47) : CallOk Tryz.prog num 62 [.agg (progC .bw p)] [] (.bool (progOk p)) := by
 refine EN m62 Tryz.func90 ?_
 unfold m62
 simp only [go_sem, qA, qB, qC, qD, qE, qF, qG, qH]
 repeat refine K ?_
 refine qA6 (ι := Nat) (fun i => .mk [(1, .ptr 10 0 0), (3, .int .i64 i)] [(10, 2, [progC .bw p])] 11) (fun i => i ≤ p.caps.length ∧ (p.caps.take i).all (fun c => within c 1 4) = true) (fun i => p.caps.length - i) 0 (by simp) ?_ ?_
 ·refine Sub.shape [] id (by omega) ?_ ?_ ?_ ?_ <;> simp [qA3]
 ·rintro i ⟨hi, hp⟩
  simp only [go_sem, qA, qB, qC, qD, qE, qF, qG, qH]
  repeat refine K ?_
  refine qA1 (fun hc => ?_) (fun hc => ?_)
  ·simp only [decide_eq_true_eq] at hc
   have hl' : i < p.caps.length := by omega
   simp only [go_sem, qA, qB, qC, qD, qE, qF, qG, qH, qA0 p.caps i hl']
   repeat refine K ?_
   refine CA [] (qAr (p.caps.getD i 0) 1 4) ?_
   try simp only [go_sem, qA, qB, qC, qD, qE, qF, qG, qH]
   repeat refine K ?_
   cases hw : within (p.caps.getD i 0) 1 4
   ·simp only [go_sem, qA, qB, qC, qD, qE, qF, qG, qH, hw]
    repeat refine K ?_
    refine fz ?_; simp [FinS, nilL, nilV, oneOr, -List.drop_one]
    simp only [progOk, capsOk]
    rw [qC1 (p := fun c => within c 1 4) hl' hw]
    simp
   ·simp only [go_sem, qA, qB, qC, qD, qE, qF, qG, qH, hw, qA4 (i := i) (by omega)]
    repeat refine K ?_
    refine qA5 (i + 1) (Sub.shape [] id (by omega) ?_ ?_ ?_ ?_) ?_ ?_
    any_goals (first | omega | (simp [qA3]; done))
    exact ⟨hl', qCi (p := fun c => within c 1 4) hp hl' hw⟩
  ·simp only [decide_eq_false_iff_not] at hc
   have hcap : capsOk p.caps = true := all_end hp hc
   simp only [go_sem, qA, qB, qC, qD, qE, qF, qG, qH]
   repeat refine K ?_
   refine qA6 (ι := Nat) (fun i => .mk [(1, .ptr 10 0 0), (4, .int .i64 i)] [(10, 2, [progC .bw p])] 11) (fun i => i ≤ p.bods.length ∧ (p.bods.take i).all (fun b => bodyOk b p.caps.length) = true) (fun i => p.bods.length - i) 0 (by simp) ?_ ?_
   ·refine Sub.shape [] id (by omega) ?_ ?_ ?_ ?_ <;> simp [qA3]
   ·rintro i ⟨hi, hp⟩
    simp only [go_sem, qA, qB, qC, qD, qE, qF, qG, qH]
    repeat refine K ?_
    refine qA1 (fun hc => ?_) (fun hc => ?_)
    ·simp only [decide_eq_true_eq] at hc
     have hl' : i < p.bods.length := by omega
     have hb : (p.bods.getD i []).length < 2 ^ 47 := h3 _ (by simp [List.getD_eq_getElem?_getD, hl'])
     simp only [go_sem, qA, qB, qC, qD, qE, qF, qG, qH, qBp .bw p.bods i hl']
     repeat refine K ?_
     refine DA [] (specBodyOk_ok (p.bods.getD i []) p.caps.length hb (by omega) (by omega)) ?_
     try simp only [go_sem, qA, qB, qC, qD, qE, qF, qG, qH]
     repeat refine K ?_
     cases hw : bodyOk (p.bods.getD i []) p.caps.length
     ·simp only [go_sem, qA, qB, qC, qD, qE, qF, qG, qH, hw]
      repeat refine K ?_
      refine fz ?_; simp [FinS, nilL, nilV, oneOr, -List.drop_one]
      simp only [progOk]
      rw [qC1 (p := fun b => bodyOk b p.caps.length) hl' hw]
      simp
     ·simp only [go_sem, qA, qB, qC, qD, qE, qF, qG, qH, hw, qA4 (i := i) (by omega)]
      repeat refine K ?_
      refine qA5 (i + 1) (Sub.shape [] id (by omega) ?_ ?_ ?_ ?_) ?_ ?_
      any_goals (first | omega | (simp [qA3]; done))
      exact ⟨hl', qCi (p := fun b => bodyOk b p.caps.length) hp hl' hw⟩
    ·simp only [decide_eq_false_iff_not] at hc
     have he := all_end hp hc
     simp only [go_sem, qA, qB, qC, qD, qE, qF, qG, qH]
     repeat refine K ?_
     by_cases hx : (p.caps.length : Int) ≤ 3
     ·simp only [go_sem, qA, qB, qC, qD, qE, qF, qG, qH, hx]
      repeat refine K ?_
      refine CA [] (qAr p.bods.length 1 4) ?_
      try simp only [go_sem, qA, qB, qC, qD, qE, qF, qG, qH]
      repeat refine K ?_
      refine fz ?_; simp [FinS, nilL, nilV, oneOr, -List.drop_one]
      simp only [progOk, he, hcap, hx]
      simp
     ·simp only [go_sem, qA, qB, qC, qD, qE, qF, qG, qH, hx]
      repeat refine K ?_
      refine fz ?_; simp [FinS, nilL, nilV, oneOr, -List.drop_one]
      simp [progOk, hx]
end Go.Sep
