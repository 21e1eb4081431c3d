/- Contracts of functions. -/
import Derived.Test.YtjbknbgdfhihcaaGreatVt0
namespace Go.Sep
open Go.Proofs
set_option linter.unusedSimpArgs false
set_option linter.unusedVariables false
set_option maxRecDepth 100000
open Nat renaming reduceAdd → qA, reduceMul → qB, reduceEqDiff → qC, reduceBEq → qD
open Int renaming reduceToNat → qE, reduceEq → qF, reduceLT → qG, reduceLE → qH
def m262 : MFn := ⟨19, [.t 2], .seq (xr [xb 1 0, xo 2 (.mv (xi 0))]) (.seq (.seq (xr [xa 3 0 1, xl 4 3]) (.blk 0 (.seq (xr [xo 6 (.bin .eql (.t 4) (xi 5)), xv 5 6]) (.cond 5 (.seq (xr [xo 2 (.mv (xi 29))]) (.ret)) (.seq (xr [xo 8 (.bin .eql (.t 4) (xi 7)), xv 7 8]) (.cond 7 (.seq (xr [xo 2 (.mv (xi 31))]) (.ret)) (.seq (xr [xo 10 (.bin .eql (.t 4) (xi 6)), xv 9 10]) (.cond 9 (.seq (xr [xo 2 (.mv (xi 30))]) (.ret)) (.seq (xr [xo 12 (.bin .eql (.t 4) (xi 8)), xv 11 12]) (.cond 11 (.seq (xr [xo 2 (.mv (xi 32))]) (.ret)) (.seq (xr [xo 14 (.bin .eql (.t 4) (xi 9)), xv 13 14]) (.cond 13 (.seq (xr [xo 2 (.mv (xi 13))]) (.ret)) (.skip))))))))))))) (.seq (xr [xa 15 0 1, xl 16 15, xc3 17 59 (.t 16) (xi 1) (xi 13), xc1 18 78 (.t 17), xv 2 18]) (.ret)))⟩
def m285 : MFn := ⟨19, [.t 2], .seq (xr [xb 1 0, xo 2 (.mv (xi 0))]) (.seq (.seq (xr [xa 3 0 1, xl 4 3]) (.blk 0 (.seq (xr [xo 6 (.bin .eql (.t 4) (xi 5)), xv 5 6]) (.cond 5 (.seq (xr [xo 2 (.mv (xi 29))]) (.ret)) (.seq (xr [xo 8 (.bin .eql (.t 4) (xi 7)), xv 7 8]) (.cond 7 (.seq (xr [xo 2 (.mv (xi 31))]) (.ret)) (.seq (xr [xo 10 (.bin .eql (.t 4) (xi 6)), xv 9 10]) (.cond 9 (.seq (xr [xo 2 (.mv (xi 30))]) (.ret)) (.seq (xr [xo 12 (.bin .eql (.t 4) (xi 8)), xv 11 12]) (.cond 11 (.seq (xr [xo 2 (.mv (xi 32))]) (.ret)) (.seq (xr [xo 14 (.bin .eql (.t 4) (xi 9)), xv 13 14]) (.cond 13 (.seq (xr [xo 2 (.mv (xi 13))]) (.ret)) (.skip))))))))))))) (.seq (xr [xa 15 0 1, xl 16 15, xc3 17 64 (.t 16) (xi 1) (xi 13), xc1 18 85 (.t 17), xv 2 18]) (.ret)))⟩
attribute [local go_sem] e_nil
def emitSize (x : Ins) : Int := if x.op = 5 then 29 else if x.op = 7 then 31 else if x.op = 6 then 30 else if x.op = 8 then 32 else if x.op = 9 then 13 else numb (within x.op 1 13)
theorem qCm (x : Ins) : CallOk Tryz.prog num 262 [.agg (insC x)] [] (.int .i64 (emitSize x)) := by
 refine EN m262 Tryz.func218 ?_
 unfold m262
 repeat' (first
  | (simp only [go_sem, qA, qB, qC, qD, qE, qF, qG, qH])
  | (refine qA1 (fun hc => ?_) (fun hc => ?_) <;> ((try simp only [Bool.not_eq_true', Bool.not_eq_false', ne_eq, Bool.not_eq_true, Bool.not_eq_false] at hc) <;> (try simp only [hc])))
  | (refine qB7 (fun hc => ?_) (fun hc => ?_) <;> ((try simp only [Bool.not_eq_true', Bool.not_eq_false', ne_eq, Bool.not_eq_true, Bool.not_eq_false] at hc) <;> (try simp only [hc])))
  | (refine qAz (fun hc => ?_) (fun hc => ?_) <;> ((try simp only [Bool.not_eq_true', Bool.not_eq_false', ne_eq, Bool.not_eq_true, Bool.not_eq_false] at hc) <;> (try simp only [hc])))
  | (refine qBm (qAi x.op 1 13) rfl rfl rfl rfl ?_)
  | (refine qB3 (qAi x.op 1 13) rfl rfl rfl rfl ?_)
  | (refine qBm (number_ok (within x.op 1 13)) rfl rfl rfl rfl ?_)
  | (refine qB3 (number_ok (within x.op 1 13)) rfl rfl rfl rfl ?_)
  | (refine ⟨by first | omega | (simp; done), ?_⟩)
  | fail)
 all_goals (refine fz ?_; simp [FinS, nilL, nilV, oneOr, -List.drop_one])
 all_goals (simp_all [emitSize]; done)
theorem specEmitSize_ok (x : Ins) : CallOk Tryz.prog num 285 [.agg (insC x)] [] (.int .i64 (emitSize x)) := by
 refine EN m285 Tryz.func187 ?_
 unfold m285
 repeat' (first
  | (simp only [go_sem, qA, qB, qC, qD, qE, qF, qG, qH])
  | (refine qA1 (fun hc => ?_) (fun hc => ?_) <;> ((try simp only [Bool.not_eq_true', Bool.not_eq_false', ne_eq, Bool.not_eq_true, Bool.not_eq_false] at hc) <;> (try simp only [hc])))
  | (refine qB7 (fun hc => ?_) (fun hc => ?_) <;> ((try simp only [Bool.not_eq_true', Bool.not_eq_false', ne_eq, Bool.not_eq_true, Bool.not_eq_false] at hc) <;> (try simp only [hc])))
  | (refine qAz (fun hc => ?_) (fun hc => ?_) <;> ((try simp only [Bool.not_eq_true', Bool.not_eq_false', ne_eq, Bool.not_eq_true, Bool.not_eq_false] at hc) <;> (try simp only [hc])))
  | (refine qBm (qAr x.op 1 13) rfl rfl rfl rfl ?_)
  | (refine qB3 (qAr x.op 1 13) rfl rfl rfl rfl ?_)
  | (refine qBm (l4Bit_ok (within x.op 1 13)) rfl rfl rfl rfl ?_)
  | (refine qB3 (l4Bit_ok (within x.op 1 13)) rfl rfl rfl rfl ?_)
  | (refine ⟨by first | omega | (simp; done), ?_⟩)
  | fail)
 all_goals (refine fz ?_; simp [FinS, nilL, nilV, oneOr, -List.drop_one])
 all_goals (simp_all [emitSize]; done)
end Go.Sep
