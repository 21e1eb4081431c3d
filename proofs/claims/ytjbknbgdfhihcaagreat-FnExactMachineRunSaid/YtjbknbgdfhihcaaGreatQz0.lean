/- Contracts of functions. -/
import Derived.Test.YtjbknbgdfhihcaaGreatFns
import Derived.Test.YtjbknbgdfhihcaaGreatQa0
import Derived.Test.YtjbknbgdfhihcaaGreatQd0
import Derived.Test.YtjbknbgdfhihcaaGreatQe0
import Derived.Test.YtjbknbgdfhihcaaGreatQf0
import Derived.Test.YtjbknbgdfhihcaaGreatQj0
import Derived.Test.YtjbknbgdfhihcaaGreatQt0
import Derived.Test.YtjbknbgdfhihcaaGreatQv0
import Derived.Test.YtjbknbgdfhihcaaGreatQw0
import Derived.Test.YtjbknbgdfhihcaaGreatQy0
namespace Go.Sep
open Go.Proofs
set_option linter.unusedSimpArgs false
set_option linter.unusedVariables false
set_option maxRecDepth 100000
open Nat renaming reduceAdd → qA, reduceMul → qB, reduceEqDiff → qC, reduceBEq → qD
open Int renaming reduceToNat → qE, reduceEq → qF, reduceLT → qG, reduceLE → qH
open List renaming getD_eq_getElem?_getD → gD

-- S2
def m205 : MFn := ⟨39, [.t 2], .seq (xr [xo 2 (.mv (.c (.bool false)))]) (.seq (xr [xv 6 0, xo 7 (.len (.t 6)), xv 3 7]) (.seq (.seq (xr [xv 8 3, xo 9 (.call 64 [false, false, false] [.t 8, xi 1, xi 800]), xo 10 (.un .«not» (.t 9))]) (.cond 10 (.seq (xr [xo 2 (.mv (.c (.bool false)))]) (.ret)) (.skip))) (.seq (.seq (xr [xo 4 (.mv (xi 0))]) (.blk 0 (.loop (.seq (.seq (xr [xv 11 4, xv 12 3, xo 13 (.bin .lss (.t 11) (.t 12))]) (.cond 13 (.skip) (.exit 0))) (.seq (.blk 1 (.seq (xr [xv 16 0, xv 17 4, xo 18 (.iad 5 (.t 16) (.t 17)), xo 19 (.load 5 true (.t 18)), xv 20 3, xo 21 (.call 261 [false, false] [.t 19, .t 20]), xo 22 (.un .«not» (.t 21))]) (.cond 22 (.seq (xr [xo 2 (.mv (.c (.bool false)))]) (.ret)) (.skip)))) (xr [xv 14 4, xo 15 (.bin .add (.t 14) (xi 1)), xv 4 15])))))) (.seq (xr [xv 23 0, xv 24 3, xo 25 (.bin .sub (.t 24) (xi 1)), xo 26 (.iad 5 (.t 23) (.t 25)), xo 27 (.fad 0 (.t 26)), xo 28 (.load 1 false (.t 27)), xv 5 28]) (.seq (xr [xv 29 5, xo 30 (.bin .eql (.t 29) (xi 10)), xv 31 30, xg 32 (.mv (.t 5)) 31 false, xg 33 (.bin .eql (.t 32) (xi 12)) 31 false, xo 34 (.pick (.t 31) (.c (.bool true)) (.t 33)), xv 35 34, xg 36 (.mv (.t 5)) 35 false, xg 37 (.bin .eql (.t 36) (xi 13)) 35 false, xo 38 (.pick (.t 35) (.c (.bool true)) (.t 37)), xv 2 38]) (.ret))))))⟩
theorem c205 : chkC Tryz.prog num Tryz.f126.ntmps m205.body ((Tryz.f126.body).getD .skip) = true := by kernel_rfl
def m209 : MFn := ⟨39, [.t 2], .seq (xr [xo 2 (.mv (.c (.bool false)))]) (.seq (.seq (xr [xv 6 0, xo 7 (.len (.t 6)), xo 8 (.call 59 [false, false, false] [.t 7, xi 1, xi 800]), xo 9 (.un .«not» (.t 8))]) (.cond 9 (.seq (xr [xo 2 (.mv (.c (.bool false)))]) (.ret)) (.skip))) (.seq (.seq (xr [xv 10 0, xo 11 (.len (.t 10)), xo 12 (.mv (xi 0))]) (.blk 0 (.loop (.seq (xr [xo 13 (.bin .lss (.t 12) (.t 11))]) (.seq (.cond 13 (.skip) (.exit 0)) (.seq (.blk 1 (.seq (xr [xo 14 (.iad 5 (.t 10) (.t 12)), xo 15 (.load 5 true (.t 14)), xo 4 (.alloc [xz, xz, xz, xz, xz]), ⟨none, .store 5 (.t 4) (.t 15), none⟩]) (.seq (xr [xo 16 (.load 5 true (.t 4)), xv 17 0, xo 18 (.len (.t 17)), xo 19 (.call 268 [false, false] [.t 16, .t 18]), xo 20 (.un .«not» (.t 19))]) (.cond 20 (.seq (xr [xo 2 (.mv (.c (.bool false)))]) (.ret)) (.skip))))) (xr [xo 21 (.bin .add (.t 12) (xi 1)), xv 12 21]))))))) (.seq (xr [xv 22 0, xv 23 0, xo 24 (.len (.t 23)), xo 25 (.bin .sub (.t 24) (xi 1)), xo 26 (.iad 5 (.t 22) (.t 25)), xo 27 (.fad 0 (.t 26)), xo 28 (.load 1 false (.t 27)), xv 5 28]) (.seq (xr [xv 29 5, xo 30 (.bin .eql (.t 29) (xi 10)), xv 31 30, xg 32 (.mv (.t 5)) 31 false, xg 33 (.bin .eql (.t 32) (xi 12)) 31 false, xo 34 (.pick (.t 31) (.c (.bool true)) (.t 33)), xv 35 34, xg 36 (.mv (.t 5)) 35 false, xg 37 (.bin .eql (.t 36) (xi 13)) 35 false, xo 38 (.pick (.t 35) (.c (.bool true)) (.t 37)), xv 2 38]) (.ret)))))⟩
theorem c209 : chkC Tryz.prog num Tryz.f139.ntmps m209.body ((Tryz.f139.body).getD .skip) = true := by kernel_rfl
def lastSt (l : List Step) : Int := (l.getD (l.length - 1) default).op
def codeOk (l : List Step) : Bool := within l.length 1 800 && l.all (fun s => stepOk s l.length) && (decide (lastSt l = 10) || decide (lastSt l = 12) || decide (lastSt l = 13))
set_option maxHeartbeats 2000000 in
theorem implCodeOk_ok (l : List Step) (hl : l.length < 2 ^ 40) : CallOk Tryz.prog num 209 [.sl .bw 5 (steps l)] [] (.bool (codeOk l)) := by
  refine enter (m := m209) (f := 209) (fn := Tryz.f139) Tryz.func139 (by kernel_rfl) rfl c209 rfl (by simp [Tryz.f139]) (by simp [bnds, bnd, nf_sl, nf_int, nf_bool, nf_str, ints_bnd]) (fun _ _ h => by simp [preH, look] at h) ?_
  unfold m209
  simp only [go_sem, qA, qB, qC, qD, qE, qF, qG, qH]
  repeat refine K ?_
  refine CA [] (within_ok l.length 1 800) ?_
  try simp only [go_sem, qA, qB, qC, qD, qE, qF, qG, qH]
  repeat refine K ?_
  cases hw2 : within l.length 1 800
  · try simp only [go_sem, qA, qB, qC, qD, qE, qF, qG, qH, hw2]
    repeat refine K ?_
    refine ⟨_, Sub.refl _, ?_⟩; simp [FinS, nilL, nilV, oneOr, -List.drop_one]
    simp [codeOk, hw2]
  try simp only [go_sem, qA, qB, qC, qD, qE, qF, qG, qH, hw2]
  repeat refine K ?_
  refine loop_intro (ι := Nat) (fun i => .mk [(0, .sl .bw 5 (steps l)), (10, .sl .bw 5 (steps l)), (11, .int .i64 l.length), (12, .int .i64 i)] [] 10) (fun i => i ≤ l.length ∧ (l.take i).all (fun x => stepOk x l.length) = true) (fun i => l.length - i) 0 (by simp) ?_ ?_
  · refine Sub.shape [] id (by omega) ?_ ?_ ?_ ?_ <;> simp [ints_rep]
  · rintro i ⟨hi, hp⟩
    simp only [go_sem, qA, qB, qC, qD, qE, qF, qG, qH]
    refine branch_intro (fun hc => ?_) (fun hc => ?_)
    · simp only [decide_eq_true_eq] at hc
      have hl' : i < l.length := by omega
      simp only [go_sem, qA, qB, qC, qD, qE, qF, qG, qH, steps_getD l i hl']
      repeat refine K ?_
      refine CA [] (implStepOk_ok (l.getD i default) l.length) ?_
      try simp only [go_sem, qA, qB, qC, qD, qE, qF, qG, qH]
      repeat refine K ?_
      cases hw3 : stepOk (l.getD i default) l.length
      · try simp only [go_sem, qA, qB, qC, qD, qE, qF, qG, qH, hw3]
        repeat refine K ?_
        refine ⟨_, Sub.refl _, ?_⟩; simp [FinS, nilL, nilV, oneOr, -List.drop_one]
        simp only [codeOk]
        rw [all_stop (p := fun x => stepOk x l.length) hl' hw3]
        simp
      · try simp only [go_sem, qA, qB, qC, qD, qE, qF, qG, qH, hw3, wrap_succ (i := i) (by omega)]
        repeat refine K ?_
        refine back_intro (i + 1) (Sub.shape [] id (by omega) ?_ ?_ ?_ ?_) ?_ ?_
        any_goals (first | omega | (simp [ints_rep]; done))
        exact ⟨hl', all_step (p := fun x => stepOk x l.length) hp hl' hw3⟩
    · simp only [decide_eq_false_iff_not] at hc
      have hlen : 1 ≤ l.length := by rw [within_iff] at hw2; omega
      have ht : Int.toNat ((l.length : Int) - 1) = l.length - 1 := by omega
      have hwr : IntKind.i64.wrap ((l.length : Int) - 1) = (l.length : Int) - 1 := wrap64 (by omega) (by omega)
      have he := all_end hp hc
      simp only [go_sem, qA, qB, qC, qD, qE, qF, qG, qH, hwr, ht, steps_getD l (l.length - 1) (by omega)]
      repeat refine K ?_
      by_cases hx : (l.getD (l.length - 1) default).op = 10
      · try simp only [go_sem, qA, qB, qC, qD, qE, qF, qG, qH, hx]
        repeat refine K ?_
        refine ⟨_, Sub.refl _, ?_⟩; simp [FinS, nilL, nilV, oneOr, -List.drop_one]
        simp only [codeOk, hw2, he, lastSt, hx]
        rfl
      by_cases hy : (l.getD (l.length - 1) default).op = 12
      · try simp only [go_sem, qA, qB, qC, qD, qE, qF, qG, qH, hx, hy]
        repeat refine K ?_
        refine ⟨_, Sub.refl _, ?_⟩; simp [FinS, nilL, nilV, oneOr, -List.drop_one]
        simp only [codeOk, hw2, he, lastSt, hy]
        rfl
      try simp only [go_sem, qA, qB, qC, qD, qE, qF, qG, qH, hx, hy]
      repeat refine K ?_
      refine ⟨_, Sub.refl _, ?_⟩; simp [FinS, nilL, nilV, oneOr, -List.drop_one]
      simp only [codeOk, hw2, he, lastSt, hx, hy]
      simp
set_option maxHeartbeats 2000000 in
theorem specCodeOk_ok (l : List Step) (hl : l.length < 2 ^ 40) : CallOk Tryz.prog num 205 [.sl .bw 5 (steps l)] [] (.bool (codeOk l)) := by
  refine enter (m := m205) (f := 205) (fn := Tryz.f126) Tryz.func126 (by kernel_rfl) rfl c205 rfl (by simp [Tryz.f126]) (by simp [bnds, bnd, nf_sl, nf_int, nf_bool, nf_str, ints_bnd]) (fun _ _ h => by simp [preH, look] at h) ?_
  unfold m205
  simp only [go_sem, qA, qB, qC, qD, qE, qF, qG, qH]
  repeat refine K ?_
  refine CA [] (l1In_ok l.length 1 800) ?_
  try simp only [go_sem, qA, qB, qC, qD, qE, qF, qG, qH]
  repeat refine K ?_
  cases hw2 : within l.length 1 800
  · try simp only [go_sem, qA, qB, qC, qD, qE, qF, qG, qH, hw2]
    repeat refine K ?_
    refine ⟨_, Sub.refl _, ?_⟩; simp [FinS, nilL, nilV, oneOr, -List.drop_one]
    simp [codeOk, hw2]
  try simp only [go_sem, qA, qB, qC, qD, qE, qF, qG, qH, hw2]
  repeat refine K ?_
  refine loop_intro (ι := Nat) (fun i => .mk [(0, .sl .bw 5 (steps l)), (3, .int .i64 l.length), (4, .int .i64 i)] [] 10) (fun i => i ≤ l.length ∧ (l.take i).all (fun x => stepOk x l.length) = true) (fun i => l.length - i) 0 (by simp) ?_ ?_
  · refine Sub.shape [] id (by omega) ?_ ?_ ?_ ?_ <;> simp [ints_rep]
  · rintro i ⟨hi, hp⟩
    simp only [go_sem, qA, qB, qC, qD, qE, qF, qG, qH]
    refine branch_intro (fun hc => ?_) (fun hc => ?_)
    · simp only [decide_eq_true_eq] at hc
      have hl' : i < l.length := by omega
      simp only [go_sem, qA, qB, qC, qD, qE, qF, qG, qH, steps_getD l i hl']
      repeat refine K ?_
      refine CA [] (specStepOk_ok (l.getD i default) l.length) ?_
      try simp only [go_sem, qA, qB, qC, qD, qE, qF, qG, qH]
      repeat refine K ?_
      cases hw3 : stepOk (l.getD i default) l.length
      · try simp only [go_sem, qA, qB, qC, qD, qE, qF, qG, qH, hw3]
        repeat refine K ?_
        refine ⟨_, Sub.refl _, ?_⟩; simp [FinS, nilL, nilV, oneOr, -List.drop_one]
        simp only [codeOk]
        rw [all_stop (p := fun x => stepOk x l.length) hl' hw3]
        simp
      · try simp only [go_sem, qA, qB, qC, qD, qE, qF, qG, qH, hw3, wrap_succ (i := i) (by omega)]
        repeat refine K ?_
        refine back_intro (i + 1) (Sub.shape [] id (by omega) ?_ ?_ ?_ ?_) ?_ ?_
        any_goals (first | omega | (simp [ints_rep]; done))
        exact ⟨hl', all_step (p := fun x => stepOk x l.length) hp hl' hw3⟩
    · simp only [decide_eq_false_iff_not] at hc
      have hlen : 1 ≤ l.length := by rw [within_iff] at hw2; omega
      have ht : Int.toNat ((l.length : Int) - 1) = l.length - 1 := by omega
      have hwr : IntKind.i64.wrap ((l.length : Int) - 1) = (l.length : Int) - 1 := wrap64 (by omega) (by omega)
      have he := all_end hp hc
      simp only [go_sem, qA, qB, qC, qD, qE, qF, qG, qH, hwr, ht, steps_getD l (l.length - 1) (by omega)]
      repeat refine K ?_
      by_cases hx : (l.getD (l.length - 1) default).op = 10
      · try simp only [go_sem, qA, qB, qC, qD, qE, qF, qG, qH, hx]
        repeat refine K ?_
        refine ⟨_, Sub.refl _, ?_⟩; simp [FinS, nilL, nilV, oneOr, -List.drop_one]
        simp only [codeOk, hw2, he, lastSt, hx]
        rfl
      by_cases hy : (l.getD (l.length - 1) default).op = 12
      · try simp only [go_sem, qA, qB, qC, qD, qE, qF, qG, qH, hx, hy]
        repeat refine K ?_
        refine ⟨_, Sub.refl _, ?_⟩; simp [FinS, nilL, nilV, oneOr, -List.drop_one]
        simp only [codeOk, hw2, he, lastSt, hy]
        rfl
      try simp only [go_sem, qA, qB, qC, qD, qE, qF, qG, qH, hx, hy]
      repeat refine K ?_
      refine ⟨_, Sub.refl _, ?_⟩; simp [FinS, nilL, nilV, oneOr, -List.drop_one]
      simp only [codeOk, hw2, he, lastSt, hx, hy]
      simp

end Go.Sep
