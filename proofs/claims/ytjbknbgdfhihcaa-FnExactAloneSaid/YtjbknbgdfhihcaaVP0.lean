/- Contracts of functions. -/
import Derived.Test.YtjbknbgdfhihcaaVN0
namespace Go.Sep
open Go.Proofs
set_option linter.unusedSimpArgs false
set_option linter.unusedVariables false
set_option maxRecDepth 100000
open Nat renaming reduceAdd → qA, reduceMul → qB, reduceEqDiff → qC, reduceBEq → qD
open Int renaming reduceToNat → qE, reduceEq → qF, reduceLT → qG, reduceLE → qH
open List renaming getD_eq_getElem?_getD → gD
def m351 : MFn := ⟨22, [.t 4], .seq (xr [xb 2 0, xo 4 (.mv (xi 0))]) (.seq (xr [xa 5 0 2, xl 6 5, xv 7 1, xo 8 (.call 165 [true, false] [.t 6, .t 7]), xv 1 8]) (.seq (xr [xa 9 1 2, xl 10 9, xv 11 1, xo 12 (.call 360 [true, false] [.t 10, .t 11]), xv 1 12]) (.seq (xr [xa 13 2 2, xm 14 1 13, xv 15 1, xo 16 (.call 361 [true, false] [.t 14, .t 15]), xv 1 16]) (.seq (xr [xa 17 3 2, xl 18 17, xv 19 1, xo 20 (.call 120 [true, false] [.t 18, .t 19]), xv 1 20]) (.seq (xr [xv 21 1, xv 4 21]) (.ret))))))⟩
def m352 : MFn := ⟨30, [.t 4], .seq (xr [xb 2 0, xo 4 (.mv (xi 0))]) (.seq (xr [xa 5 0 2, xl 6 5, xv 7 1, xc2 8 166 (.t 6) (.t 7), xv 1 8]) (.seq (.seq (xr [xv 9 1, xo 10 (.bin .lss (.t 9) (xi 0))]) (.cond 10 (.seq (xr [xo 4 (.mv (.c (.int .i64 (-1))))]) (.ret)) (.skip))) (.seq (xr [xa 11 1 2, xl 12 11, xv 13 1, xc2 14 362 (.t 12) (.t 13), xv 1 14]) (.seq (.seq (xr [xv 15 1, xo 16 (.bin .lss (.t 15) (xi 0))]) (.cond 16 (.seq (xr [xo 4 (.mv (.c (.int .i64 (-1))))]) (.ret)) (.skip))) (.seq (xr [xa 17 2 2, xm 18 1 17, xv 19 1, xc2 20 363 (.t 18) (.t 19), xv 1 20]) (.seq (.seq (xr [xv 21 1, xo 22 (.bin .lss (.t 21) (xi 0))]) (.cond 22 (.seq (xr [xo 4 (.mv (.c (.int .i64 (-1))))]) (.ret)) (.skip))) (.seq (xr [xa 23 3 2, xl 24 23, xv 25 1, xc2 26 121 (.t 24) (.t 25), xv 1 26]) (.seq (.seq (xr [xv 27 1, xo 28 (.bin .lss (.t 27) (xi 0))]) (.cond 28 (.seq (xr [xo 4 (.mv (.c (.int .i64 (-1))))]) (.ret)) (.skip))) (.seq (xr [xv 29 1, xv 4 29]) (.ret))))))))))⟩
def m360 : MFn := ⟨41, [.t 4], .seq (xr [xo 4 (.mv (xi 0))]) (.seq (.seq (xr [xo 5 (.mv (xi 0))]) (.blk 0 (.loop (.seq (.seq (xr [xv 6 5, xv 7 0, xe 8 7, xo 9 (.bin .lss (.t 6) (.t 8))]) (.cond 9 (.skip) (.exit 0))) (.seq (.blk 1 (.seq (xr [xv 12 0, xv 13 5, xv 14 1, xo 15 (.iad 4 (.t 12) (.t 13)), xa 16 0 15, ⟨none, .store 1 (.t 16) (.t 14), none⟩]) (.seq (xr [xv 17 1, xo 18 (.bin .add (.t 17) (xi 1)), xv 1 18]) (.seq (xr [xv 19 0, xv 20 5, xo 21 (.iad 4 (.t 19) (.t 20)), xa 22 1 21, xl 23 22, xv 24 1, xo 25 (.call 16 [true, false] [.t 23, .t 24]), xv 1 25]) (.seq (xr [xv 26 0, xv 27 5, xo 28 (.iad 4 (.t 26) (.t 27)), xa 29 2 28, xl 30 29, xv 31 1, xo 32 (.call 16 [true, false] [.t 30, .t 31]), xv 1 32]) (.seq (xr [xv 33 0, xv 34 5, xv 35 1, xo 36 (.iad 4 (.t 33) (.t 34)), xa 37 3 36, ⟨none, .store 1 (.t 37) (.t 35), none⟩]) (xr [xv 38 1, xo 39 (.bin .add (.t 38) (xi 1)), xv 1 39]))))))) (xr [xv 10 5, xo 11 (.bin .add (.t 10) (xi 1)), xv 5 11])))))) (.seq (xr [xv 40 1, xv 4 40]) (.ret)))⟩
def m361 : MFn := ⟨10, [.t 4], .seq (xr [xb 2 0, xo 4 (.mv (xi 0))]) (.seq (xr [xa 5 0 2, xl 6 5, xv 7 1, xo 8 (.call 370 [true, false] [.t 6, .t 7]), xv 1 8]) (.seq (xr [xv 9 1, xv 4 9]) (.ret)))⟩
def m362 : MFn := ⟨49, [.t 4], .seq (xr [xo 4 (.mv (xi 0))]) (.seq (.seq (xr [xo 5 (.mv (xi 0))]) (.blk 0 (.loop (.seq (.seq (xr [xv 6 5, xv 7 0, xe 8 7, xo 9 (.bin .lss (.t 6) (.t 8))]) (.cond 9 (.skip) (.exit 0))) (.seq (.blk 1 (.seq (.seq (xr [xv 12 0, xv 13 5, xo 14 (.iad 4 (.t 12) (.t 13)), xa 15 0 14, xl 16 15, xv 17 1, xo 18 (.bin .neq (.t 16) (.t 17))]) (.cond 18 (.seq (xr [xo 4 (.mv (.c (.int .i64 (-1))))]) (.ret)) (.skip))) (.seq (xr [xv 19 1, xo 20 (.bin .add (.t 19) (xi 1)), xv 1 20]) (.seq (xr [xv 21 0, xv 22 5, xo 23 (.iad 4 (.t 21) (.t 22)), xa 24 1 23, xl 25 24, xv 26 1, xc2 27 17 (.t 25) (.t 26), xv 1 27]) (.seq (.seq (xr [xv 28 1, xo 29 (.bin .lss (.t 28) (xi 0))]) (.cond 29 (.seq (xr [xo 4 (.mv (.c (.int .i64 (-1))))]) (.ret)) (.skip))) (.seq (xr [xv 30 0, xv 31 5, xo 32 (.iad 4 (.t 30) (.t 31)), xa 33 2 32, xl 34 33, xv 35 1, xc2 36 17 (.t 34) (.t 35), xv 1 36]) (.seq (.seq (xr [xv 37 1, xo 38 (.bin .lss (.t 37) (xi 0))]) (.cond 38 (.seq (xr [xo 4 (.mv (.c (.int .i64 (-1))))]) (.ret)) (.skip))) (.seq (.seq (xr [xv 39 0, xv 40 5, xo 41 (.iad 4 (.t 39) (.t 40)), xa 42 3 41, xl 43 42, xv 44 1, xo 45 (.bin .neq (.t 43) (.t 44))]) (.cond 45 (.seq (xr [xo 4 (.mv (.c (.int .i64 (-1))))]) (.ret)) (.skip))) (xr [xv 46 1, xo 47 (.bin .add (.t 46) (xi 1)), xv 1 47]))))))))) (xr [xv 10 5, xo 11 (.bin .add (.t 10) (xi 1)), xv 5 11])))))) (.seq (xr [xv 48 1, xv 4 48]) (.ret)))⟩
def m363 : MFn := ⟨12, [.t 4], .seq (xr [xb 2 0, xo 4 (.mv (xi 0))]) (.seq (xr [xa 5 0 2, xl 6 5, xv 7 1, xc2 8 371 (.t 6) (.t 7), xv 1 8]) (.seq (.seq (xr [xv 9 1, xo 10 (.bin .lss (.t 9) (xi 0))]) (.cond 10 (.seq (xr [xo 4 (.mv (.c (.int .i64 (-1))))]) (.ret)) (.skip))) (.seq (xr [xv 11 1, xv 4 11]) (.ret))))⟩
def m370 : MFn := ⟨19, [.t 4], .seq (xr [xo 4 (.mv (xi 0))]) (.seq (.seq (xr [xo 5 (.mv (xi 0))]) (.blk 0 (.loop (.seq (.seq (xr [xv 6 5, xv 7 0, xe 8 7, xo 9 (.bin .lss (.t 6) (.t 8))]) (.cond 9 (.skip) (.exit 0))) (.seq (.blk 1 (xr [xv 12 0, xv 13 5, xo 14 (.iad 1 (.t 12) (.t 13)), xl 15 14, xv 16 1, xo 17 (.call 379 [true, false] [.t 15, .t 16]), xv 1 17])) (xr [xv 10 5, xo 11 (.bin .add (.t 10) (xi 1)), xv 5 11])))))) (.seq (xr [xv 18 1, xv 4 18]) (.ret)))⟩
def m371 : MFn := ⟨21, [.t 4], .seq (xr [xo 4 (.mv (xi 0))]) (.seq (.seq (xr [xo 5 (.mv (xi 0))]) (.blk 0 (.loop (.seq (.seq (xr [xv 6 5, xv 7 0, xe 8 7, xo 9 (.bin .lss (.t 6) (.t 8))]) (.cond 9 (.skip) (.exit 0))) (.seq (.blk 1 (.seq (xr [xv 12 0, xv 13 5, xo 14 (.iad 1 (.t 12) (.t 13)), xl 15 14, xv 16 1, xc2 17 380 (.t 15) (.t 16), xv 1 17]) (.seq (xr [xv 18 1, xo 19 (.bin .lss (.t 18) (xi 0))]) (.cond 19 (.seq (xr [xo 4 (.mv (.c (.int .i64 (-1))))]) (.ret)) (.skip))))) (xr [xv 10 5, xo 11 (.bin .add (.t 10) (xi 1)), xv 5 11])))))) (.seq (xr [xv 20 1, xv 4 20]) (.ret)))⟩
def m379 : MFn := ⟨27, [.t 4], .seq (xr [xo 4 (.mv (xi 0))]) (.seq (.seq (xr [xo 5 (.mv (xi 0))]) (.blk 0 (.loop (.seq (.seq (xr [xv 6 5, xv 7 0, xe 8 7, xo 9 (.bin .lss (.t 6) (.t 8))]) (.cond 9 (.skip) (.exit 0))) (.seq (.blk 1 (.seq (xr [xv 12 0, xv 13 5, xv 14 1, xo 15 (.iad 2 (.t 12) (.t 13)), xa 16 0 15, ⟨none, .store 1 (.t 16) (.t 14), none⟩]) (.seq (xr [xv 17 1, xo 18 (.bin .add (.t 17) (xi 1)), xv 1 18]) (xr [xv 19 0, xv 20 5, xo 21 (.iad 2 (.t 19) (.t 20)), xa 22 1 21, xl 23 22, xv 24 1, xo 25 (.call 16 [true, false] [.t 23, .t 24]), xv 1 25])))) (xr [xv 10 5, xo 11 (.bin .add (.t 10) (xi 1)), xv 5 11])))))) (.seq (xr [xv 26 1, xv 4 26]) (.ret)))⟩
def m380 : MFn := ⟨31, [.t 4], .seq (xr [xo 4 (.mv (xi 0))]) (.seq (.seq (xr [xo 5 (.mv (xi 0))]) (.blk 0 (.loop (.seq (.seq (xr [xv 6 5, xv 7 0, xe 8 7, xo 9 (.bin .lss (.t 6) (.t 8))]) (.cond 9 (.skip) (.exit 0))) (.seq (.blk 1 (.seq (.seq (xr [xv 12 0, xv 13 5, xo 14 (.iad 2 (.t 12) (.t 13)), xa 15 0 14, xl 16 15, xv 17 1, xo 18 (.bin .neq (.t 16) (.t 17))]) (.cond 18 (.seq (xr [xo 4 (.mv (.c (.int .i64 (-1))))]) (.ret)) (.skip))) (.seq (xr [xv 19 1, xo 20 (.bin .add (.t 19) (xi 1)), xv 1 20]) (.seq (xr [xv 21 0, xv 22 5, xo 23 (.iad 2 (.t 21) (.t 22)), xa 24 1 23, xl 25 24, xv 26 1, xc2 27 17 (.t 25) (.t 26), xv 1 27]) (.seq (xr [xv 28 1, xo 29 (.bin .lss (.t 28) (xi 0))]) (.cond 29 (.seq (xr [xo 4 (.mv (.c (.int .i64 (-1))))]) (.ret)) (.skip))))))) (xr [xv 10 5, xo 11 (.bin .add (.t 10) (xi 1)), xv 5 11])))))) (.seq (xr [xv 30 1, xv 4 30]) (.ret)))⟩
theorem markWriteS_ok (l : List Write) (k : Int) (h0 : 0 ≤ k) (h1 : k + tots wWrite l < 2 ^ 59) (h2 : l.length < 2 ^ 59) : CallOk Try.prog num 379 [.ns 0 0 l.length, .int .i64 k] [(0, some (2, writes .own l), some (2, writes .own (mks wWrite markWriteF k l)))] (.int .i64 (k + tots wWrite l)) := by
 refine EH m379 Try.func126 ?_
 unfold m379
 simp only [go_sem, qA, qB, qC, qD, qE, qF, qG, qH]
 repeat refine K ?_
 refine qA7 (ι := Nat) (fun i => .mk [(0, .ns 0 0 l.length), (1, .int .i64 (k + tots wWrite (l.take i))), (5, .int .i64 i)] [(0, 2, writes .own (mks wWrite markWriteF k (l.take i) ++ l.drop i))] 10) (fun i => i ≤ l.length) (fun i => l.length - i) 0 (by omega) ?_ ?_
 ·refine Sub.shape [] id (by omega) ?_ ?_ ?_ ?_ <;> simp [qA3]
  all_goals simp [mks, tots]
 ·intro i hi
  have hm : (mks wWrite markWriteF k (l.take i) ++ l.drop i).length = l.length := by simp; omega
  simp only [go_sem, qA, qB, qC, qD, qE, qF, qG, qH, hm]
  refine qA2 (fun hc => ?_) (fun hc => ?_)
  ·simp only [decide_eq_true_eq] at hc
   have hl' : i < l.length := by omega
   have ht := qBb wWrite l default i hl'
   have htl := qAq wWrite l (i + 1)
   have hw : wWrite (l.getD i default) = 1 + (l.getD i default).view.length := rfl
   have gb : (writes .own (mks wWrite markWriteF k (l.take i) ++ l.drop i)).getD i [] = [.int .i64 (l.getD i default).v, .sl .own 1 (ints (l.getD i default).view)] := by
    rw [qAz .own _ i (hm ▸ hl'), mks_getD _ _ default l k i hl']
   have gw : ∀ r, ((writes .own (mks wWrite markWriteF k (l.take i) ++ l.drop i)).set i r).getD i [] = r := fun r => qA5 _ _ _ _ (by rw [qBw, hm]; exact hl')
   have gi : ∀ a0 a1, (writes .own ((mks wWrite markWriteF k (l.take i) ++ l.drop i).set i ⟨a0, a1⟩)).getD i [] = [.int .i64 a0, .sl .own 1 (ints a1)] := fun a0 a1 => by
    rw [qAz .own _ i (by rw [List.length_set, hm]; exact hl'), qA5 _ _ _ _ (by rw [hm]; exact hl')]
   have gv : ∀ x r, ((writes .own ((mks wWrite markWriteF k (l.take i) ++ l.drop i).set i x)).set i r).getD i [] = r := fun x r => qA5 _ _ _ _ (by rw [qBw, List.length_set, hm]; exact hl')
   have q0 : IntKind.i64.wrap (k + tots wWrite (l.take i) + 1) = k + tots wWrite (l.take i) + 1 := qAs (by omega) (by omega)
   have e5 : k + tots wWrite (l.take i) + 1 + (l.getD i default).view.length = k + (tots wWrite (l.take (i + 1)) : Int) := by omega
   have hs := mks_set wWrite markWriteF default l k i hl'
   simp only [markWriteF] at hs
   simp only [go_sem, qA, qB, qC, qD, qE, qF, qG, qH, gb, gw, hm, List.length_set, gi, gv, q0, qA6 (i := i) (by omega)]
   repeat refine K ?_
   refine CA [(0, 10)] (markIntS_ok (l.getD i default).view (k + tots wWrite (l.take i) + 1) (by omega) (by omega)) ?_
   try simp only [go_sem, qA, qB, qC, qD, qE, qF, qG, qH]
   repeat refine K ?_
   try simp only [go_sem, qA, qB, qC, qD, qE, qF, qG, qH, gb, gw, hm, List.length_set, gi, gv, q0, e5, qA6 (i := i) (by omega)]
   repeat refine K ?_
   refine qA8 (i + 1) ?_ hl' (by omega)
   refine Sub.trans (Sub.foldAt 0 1 10 rfl (by simp [-gD] <;> omega) rfl (by decide) (by decide) rfl (by simp <;> omega)) ?_
   simp only [fS, fS2, qA, qC, qBd, writes_set, List.set_set, hs]
   refine Sub.shape [] id (by omega) ?_ ?_ ?_ ?_ <;> simp [qA3]
  ·simp only [decide_eq_false_iff_not] at hc
   have he : l.take i = l := List.take_of_length_le (by omega)
   have hd : l.drop i = [] := List.drop_eq_nil_of_le (by omega)
   simp only [go_sem, qA, qB, qC, qD, qE, qF, qG, qH, he, hd]
   repeat refine K ?_
   refine fz ?_; simp [FinS, nilL, nilV, oneOr, -List.drop_one]
theorem heldWriteS_ok (l : List Write) (k : Int) (h0 : 0 ≤ k) (h1 : k + tots wWrite l < 2 ^ 59) (h2 : l.length < 2 ^ 59) : CallOk Try.prog num 380 [.sl .bw 2 (writes .bw (mks wWrite markWriteF k l)), .int .i64 k] [] (.int .i64 (k + tots wWrite l)) := by
 refine EN m380 Try.func127 ?_
 unfold m380
 simp only [go_sem, qA, qB, qC, qD, qE, qF, qG, qH, qAf]
 repeat refine K ?_
 refine qA7 (ι := Nat) (fun i => .mk [(0, .sl .bw 2 (writes .bw (mks wWrite markWriteF k l))), (1, .int .i64 (k + tots wWrite (l.take i))), (5, .int .i64 i)] [] 10) (fun i => i ≤ l.length) (fun i => l.length - i) 0 (by omega) ?_ ?_
 ·refine Sub.shape [] id (by omega) ?_ ?_ ?_ ?_ <;> simp [qA3]
  all_goals simp [tots]
 ·intro i hi
  simp only [go_sem, qA, qB, qC, qD, qE, qF, qG, qH, qAf]
  repeat refine K ?_
  refine qA2 (fun hc => ?_) (fun hc => ?_)
  ·simp only [decide_eq_true_eq] at hc
   have hl' : i < l.length := by omega
   have ht := qBb wWrite l default i hl'
   have htl := qAq wWrite l (i + 1)
   have hw : wWrite (l.getD i default) = 1 + (l.getD i default).view.length := rfl
   have gb : (writes .bw (mks wWrite markWriteF k l)).getD i [] = [.int .i64 (k + tots wWrite (l.take i)), .sl .bw 1 (ints (marks (k + tots wWrite (l.take i) + 1) (l.getD i default).view.length))] := by
    rw [qAz .bw _ i (by rw [qAf]; exact hl'), mks_get _ _ default l k i hl']
    rfl
   have q0 : IntKind.i64.wrap (k + tots wWrite (l.take i) + 1) = k + tots wWrite (l.take i) + 1 := qAs (by omega) (by omega)
   have d1 : decide (k + tots wWrite (l.take i) + 1 + (((l.getD i default).view.length : Nat) : Int) < 0) = false := by simp [-List.getD_eq_getElem?_getD]; omega
   have e5 : k + tots wWrite (l.take i) + 1 + (l.getD i default).view.length = k + (tots wWrite (l.take (i + 1)) : Int) := by omega
   have d5 : decide (k + (tots wWrite (l.take (i + 1)) : Int) < 0) = false := by simp; omega
   simp only [go_sem, qA, qB, qC, qD, qE, qF, qG, qH, gb, qAf, q0, d1]
   repeat refine K ?_
   refine CA [] (heldIntS_ok (l.getD i default).view.length (k + tots wWrite (l.take i) + 1) (by omega) (by omega)) ?_
   try simp only [go_sem, qA, qB, qC, qD, qE, qF, qG, qH]
   repeat refine K ?_
   try simp only [go_sem, qA, qB, qC, qD, qE, qF, qG, qH, gb, qAf, q0, d1, d5, e5, qA6 (i := i) (by omega)]
   repeat refine K ?_
   refine qA8 (i + 1) (Sub.shape [] id (by omega) ?_ ?_ ?_ ?_) ?_ ?_
   any_goals (first | omega | (simp [qA3]; done))
  ·simp only [decide_eq_false_iff_not] at hc
   have he : l.take i = l := List.take_of_length_le (by omega)
   simp only [go_sem, qA, qB, qC, qD, qE, qF, qG, qH, he]
   repeat refine K ?_
   refine fz ?_; simp [FinS, nilL, nilV, oneOr, -List.drop_one]
theorem markCoreS_ok (l : List Core) (k : Int) (h0 : 0 ≤ k) (h1 : k + tots wCore l < 2 ^ 59) (h2 : l.length < 2 ^ 59) : CallOk Try.prog num 360 [.ns 0 0 l.length, .int .i64 k] [(0, some (4, cores .own l), some (4, cores .own (mks wCore markCoreF k l)))] (.int .i64 (k + tots wCore l)) := by
 refine EH m360 Try.func42 ?_
 unfold m360
 simp only [go_sem, qA, qB, qC, qD, qE, qF, qG, qH]
 repeat refine K ?_
 refine qA7 (ι := Nat) (fun i => .mk [(0, .ns 0 0 l.length), (1, .int .i64 (k + tots wCore (l.take i))), (5, .int .i64 i)] [(0, 4, cores .own (mks wCore markCoreF k (l.take i) ++ l.drop i))] 10) (fun i => i ≤ l.length) (fun i => l.length - i) 0 (by omega) ?_ ?_
 ·refine Sub.shape [] id (by omega) ?_ ?_ ?_ ?_ <;> simp [qA3]
  all_goals simp [mks, tots]
 ·intro i hi
  have hm : (mks wCore markCoreF k (l.take i) ++ l.drop i).length = l.length := by simp; omega
  simp only [go_sem, qA, qB, qC, qD, qE, qF, qG, qH, hm]
  refine qA2 (fun hc => ?_) (fun hc => ?_)
  ·simp only [decide_eq_true_eq] at hc
   have hl' : i < l.length := by omega
   have ht := qBb wCore l default i hl'
   have htl := qAq wCore l (i + 1)
   have hw : wCore (l.getD i default) = 2 + (l.getD i default).regs.length + (l.getD i default).view.length := rfl
   have gb : (cores .own (mks wCore markCoreF k (l.take i) ++ l.drop i)).getD i [] = [.int .i64 (l.getD i default).at_, .sl .own 1 (ints (l.getD i default).regs), .sl .own 1 (ints (l.getD i default).view), .int .i64 (l.getD i default).st] := by
    rw [qAl .own _ i (hm ▸ hl'), mks_getD _ _ default l k i hl']
   have gw : ∀ r, ((cores .own (mks wCore markCoreF k (l.take i) ++ l.drop i)).set i r).getD i [] = r := fun r => qA5 _ _ _ _ (by rw [qAn, hm]; exact hl')
   have gi : ∀ a0 a1 a2 a3, (cores .own ((mks wCore markCoreF k (l.take i) ++ l.drop i).set i ⟨a0, a1, a2, a3⟩)).getD i [] = [.int .i64 a0, .sl .own 1 (ints a1), .sl .own 1 (ints a2), .int .i64 a3] := fun a0 a1 a2 a3 => by
    rw [qAl .own _ i (by rw [List.length_set, hm]; exact hl'), qA5 _ _ _ _ (by rw [hm]; exact hl')]
   have gv : ∀ x r, ((cores .own ((mks wCore markCoreF k (l.take i) ++ l.drop i).set i x)).set i r).getD i [] = r := fun x r => qA5 _ _ _ _ (by rw [qAn, List.length_set, hm]; exact hl')
   have q0 : IntKind.i64.wrap (k + tots wCore (l.take i) + 1) = k + tots wCore (l.take i) + 1 := qAs (by omega) (by omega)
   have q3 : IntKind.i64.wrap (k + tots wCore (l.take i) + 1 + (l.getD i default).regs.length + (l.getD i default).view.length + 1) = k + (tots wCore (l.take (i + 1)) : Int) := by rw [qAs (by omega) (by omega)]; omega
   have hs := mks_set wCore markCoreF default l k i hl'
   simp only [markCoreF] at hs
   simp only [go_sem, qA, qB, qC, qD, qE, qF, qG, qH, gb, gw, hm, List.length_set, gi, gv, q0, q3, qA6 (i := i) (by omega)]
   repeat refine K ?_
   refine CA [(0, 10)] (markIntS_ok (l.getD i default).regs (k + tots wCore (l.take i) + 1) (by omega) (by omega)) ?_
   try simp only [go_sem, qA, qB, qC, qD, qE, qF, qG, qH]
   repeat refine K ?_
   try simp only [go_sem, qA, qB, qC, qD, qE, qF, qG, qH, gb, gw, hm, List.length_set, gi, gv, q0, q3, qA6 (i := i) (by omega)]
   repeat refine K ?_
   refine CA [(0, 11)] (markIntS_ok (l.getD i default).view (k + tots wCore (l.take i) + 1 + (l.getD i default).regs.length) (by omega) (by omega)) ?_
   try simp only [go_sem, qA, qB, qC, qD, qE, qF, qG, qH]
   repeat refine K ?_
   try simp only [go_sem, qA, qB, qC, qD, qE, qF, qG, qH, gb, gw, hm, List.length_set, gi, gv, q0, q3, qA6 (i := i) (by omega)]
   repeat refine K ?_
   refine qA8 (i + 1) ?_ hl' (by omega)
   refine Sub.trans (Sub.foldAt 0 1 10 rfl (by simp [-gD] <;> omega) rfl (by decide) (by decide) rfl (by simp <;> omega)) ?_
   simp only [fS, fS2, qA, qC, qBd, qA1, List.set_set, hs]
   refine Sub.trans (Sub.foldAt 0 2 11 rfl (by simp [-gD] <;> omega) rfl (by decide) (by decide) rfl (by simp <;> omega)) ?_
   simp only [fS, fS2, qA, qC, qBd, qA1, List.set_set, hs]
   refine Sub.shape [] id (by omega) ?_ ?_ ?_ ?_ <;> simp [qA3]
  ·simp only [decide_eq_false_iff_not] at hc
   have he : l.take i = l := List.take_of_length_le (by omega)
   have hd : l.drop i = [] := List.drop_eq_nil_of_le (by omega)
   simp only [go_sem, qA, qB, qC, qD, qE, qF, qG, qH, he, hd]
   repeat refine K ?_
   refine fz ?_; simp [FinS, nilL, nilV, oneOr, -List.drop_one]
theorem heldCoreS_ok (l : List Core) (k : Int) (h0 : 0 ≤ k) (h1 : k + tots wCore l < 2 ^ 59) (h2 : l.length < 2 ^ 59) : CallOk Try.prog num 362 [.sl .bw 4 (cores .bw (mks wCore markCoreF k l)), .int .i64 k] [] (.int .i64 (k + tots wCore l)) := by
 refine EN m362 Try.func46 ?_
 unfold m362
 simp only [go_sem, qA, qB, qC, qD, qE, qF, qG, qH, qAf]
 repeat refine K ?_
 refine qA7 (ι := Nat) (fun i => .mk [(0, .sl .bw 4 (cores .bw (mks wCore markCoreF k l))), (1, .int .i64 (k + tots wCore (l.take i))), (5, .int .i64 i)] [] 10) (fun i => i ≤ l.length) (fun i => l.length - i) 0 (by omega) ?_ ?_
 ·refine Sub.shape [] id (by omega) ?_ ?_ ?_ ?_ <;> simp [qA3]
  all_goals simp [tots]
 ·intro i hi
  simp only [go_sem, qA, qB, qC, qD, qE, qF, qG, qH, qAf]
  repeat refine K ?_
  refine qA2 (fun hc => ?_) (fun hc => ?_)
  ·simp only [decide_eq_true_eq] at hc
   have hl' : i < l.length := by omega
   have ht := qBb wCore l default i hl'
   have htl := qAq wCore l (i + 1)
   have hw : wCore (l.getD i default) = 2 + (l.getD i default).regs.length + (l.getD i default).view.length := rfl
   have gb : (cores .bw (mks wCore markCoreF k l)).getD i [] = [.int .i64 (k + tots wCore (l.take i)), .sl .bw 1 (ints (marks (k + tots wCore (l.take i) + 1) (l.getD i default).regs.length)), .sl .bw 1 (ints (marks (k + tots wCore (l.take i) + 1 + (l.getD i default).regs.length) (l.getD i default).view.length)), .int .i64 (k + tots wCore (l.take i) + 1 + (l.getD i default).regs.length + (l.getD i default).view.length)] := by
    rw [qAl .bw _ i (by rw [qAf]; exact hl'), mks_get _ _ default l k i hl']
    rfl
   have q0 : IntKind.i64.wrap (k + tots wCore (l.take i) + 1) = k + tots wCore (l.take i) + 1 := qAs (by omega) (by omega)
   have d1 : decide (k + tots wCore (l.take i) + 1 + (((l.getD i default).regs.length : Nat) : Int) < 0) = false := by simp [-List.getD_eq_getElem?_getD]; omega
   have d2 : decide (k + tots wCore (l.take i) + 1 + (l.getD i default).regs.length + (((l.getD i default).view.length : Nat) : Int) < 0) = false := by simp [-List.getD_eq_getElem?_getD]; omega
   have q3 : IntKind.i64.wrap (k + tots wCore (l.take i) + 1 + (l.getD i default).regs.length + (l.getD i default).view.length + 1) = k + (tots wCore (l.take (i + 1)) : Int) := by rw [qAs (by omega) (by omega)]; omega
   simp only [go_sem, qA, qB, qC, qD, qE, qF, qG, qH, gb, qAf, q0, d1, d2, q3]
   repeat refine K ?_
   refine CA [] (heldIntS_ok (l.getD i default).regs.length (k + tots wCore (l.take i) + 1) (by omega) (by omega)) ?_
   try simp only [go_sem, qA, qB, qC, qD, qE, qF, qG, qH]
   repeat refine K ?_
   try simp only [go_sem, qA, qB, qC, qD, qE, qF, qG, qH, gb, qAf, q0, d1, d2, q3, qA6 (i := i) (by omega)]
   repeat refine K ?_
   refine CA [] (heldIntS_ok (l.getD i default).view.length (k + tots wCore (l.take i) + 1 + (l.getD i default).regs.length) (by omega) (by omega)) ?_
   try simp only [go_sem, qA, qB, qC, qD, qE, qF, qG, qH]
   repeat refine K ?_
   try simp only [go_sem, qA, qB, qC, qD, qE, qF, qG, qH, gb, qAf, q0, d1, d2, q3, qA6 (i := i) (by omega)]
   repeat refine K ?_
   refine qA8 (i + 1) (Sub.shape [] id (by omega) ?_ ?_ ?_ ?_) ?_ ?_
   any_goals (first | omega | (simp [qA3]; done))
  ·simp only [decide_eq_false_iff_not] at hc
   have he : l.take i = l := List.take_of_length_le (by omega)
   simp only [go_sem, qA, qB, qC, qD, qE, qF, qG, qH, he]
   repeat refine K ?_
   refine fz ?_; simp [FinS, nilL, nilV, oneOr, -List.drop_one]
theorem markWriteSS_ok (l : List (List Write)) (k : Int) (h0 : 0 ≤ k) (h1 : k + tots wWriteS l < 2 ^ 59) (h2 : l.length < 2 ^ 59) (hb : ∀ b ∈ l, b.length < 2 ^ 59) : CallOk Try.prog num 370 [.ns 0 0 l.length, .int .i64 k] [(0, some (1, cels .own l), some (1, cels .own (mks wWriteS markWriteSF k l)))] (.int .i64 (k + tots wWriteS l)) := by
 refine EH m370 Try.func93 ?_
 unfold m370
 simp only [go_sem, qA, qB, qC, qD, qE, qF, qG, qH]
 repeat refine K ?_
 refine qA7 (ι := Nat) (fun i => .mk [(0, .ns 0 0 l.length), (1, .int .i64 (k + tots wWriteS (l.take i))), (5, .int .i64 i)] [(0, 1, cels .own ((mks wWriteS markWriteSF k (l.take i)) ++ l.drop i))] 10) (fun i => i ≤ l.length) (fun i => l.length - i) 0 (by omega) ?_ ?_
 ·refine Sub.shape [] id (by omega) ?_ ?_ ?_ ?_ <;> simp [qA3]
  all_goals simp [mks, tots]
 ·intro i hi
  have hm : ((mks wWriteS markWriteSF k (l.take i)) ++ l.drop i).length = l.length := by simp; omega
  simp only [go_sem, qA, qB, qC, qD, qE, qF, qG, qH, hm]
  refine qA2 (fun hc => ?_) (fun hc => ?_)
  ·simp only [decide_eq_true_eq] at hc
   have hl' : i < l.length := by omega
   have ht := qBb wWriteS l [] i hl'
   have htl := qAq wWriteS l (i + 1)
   have hw : wWriteS (l.getD i []) = tots wWrite (l.getD i []) := rfl
   have gb : (cels .own ((mks wWriteS markWriteSF k (l.take i)) ++ l.drop i)).getD i [] = [.sl .own 2 (writes .own (l.getD i []))] := by
    rw [qAi .own _ i (hm ▸ hl'), mks_getD _ _ [] l k i hl']
   have hs := mks_set wWriteS markWriteSF [] l k i hl'
   have hsf : markWriteSF (k + tots wWriteS (l.take i)) (l.getD i []) = mks wWrite markWriteF (k + tots wWriteS (l.take i)) (l.getD i []) := rfl
   rw [hsf] at hs
   simp only [go_sem, qA, qB, qC, qD, qE, qF, qG, qH, gb, hm, qA6 (i := i) (by omega)]
   repeat refine K ?_
   refine CA [(0, 10)] (markWriteS_ok (l.getD i []) (k + tots wWriteS (l.take i)) (by omega) (by omega) (by have := hb _ (qAd l i [] hl'); omega)) ?_
   try simp only [go_sem, qA, qB, qC, qD, qE, qF, qG, qH]
   repeat refine K ?_
   have e5 : k + (tots wWriteS (l.take i) : Int) + ((tots wWrite (l.getD i []) : Nat) : Int) = k + (tots wWriteS (l.take (i + 1)) : Int) := by omega
   try simp only [go_sem, qA, qB, qC, qD, qE, qF, qG, qH, e5, hm, qA6 (i := i) (by omega)]
   repeat refine K ?_
   refine qA8 (i + 1) ?_ hl' (by omega)
   refine Sub.trans (Sub.foldAt 0 0 10 rfl (by simp [-gD] <;> omega) rfl (by decide) (by decide) rfl (by simp <;> omega)) ?_
   simp only [fS, fS2, qA, qC, qAp, qAf, hs]
   refine Sub.shape [] id (by omega) ?_ ?_ ?_ ?_ <;> simp [qA3]
  ·simp only [decide_eq_false_iff_not] at hc
   have he : l.take i = l := List.take_of_length_le (by omega)
   have hd : l.drop i = [] := List.drop_eq_nil_of_le (by omega)
   simp only [go_sem, qA, qB, qC, qD, qE, qF, qG, qH, he, hd]
   repeat refine K ?_
   refine fz ?_; simp [FinS, nilL, nilV, oneOr, -List.drop_one]
theorem heldWriteSS_ok (l : List (List Write)) (k : Int) (h0 : 0 ≤ k) (h1 : k + tots wWriteS l < 2 ^ 59) (h2 : l.length < 2 ^ 59) (hb : ∀ b ∈ l, b.length < 2 ^ 59) : CallOk Try.prog num 371 [.sl .bw 1 (cels .bw (mks wWriteS markWriteSF k l)), .int .i64 k] [] (.int .i64 (k + tots wWriteS l)) := by
 refine EN m371 Try.func96 ?_
 unfold m371
 simp only [go_sem, qA, qB, qC, qD, qE, qF, qG, qH, qAf]
 repeat refine K ?_
 refine qA7 (ι := Nat) (fun i => .mk [(0, .sl .bw 1 (cels .bw (mks wWriteS markWriteSF k l))), (1, .int .i64 (k + tots wWriteS (l.take i))), (5, .int .i64 i)] [] 10) (fun i => i ≤ l.length) (fun i => l.length - i) 0 (by omega) ?_ ?_
 ·refine Sub.shape [] id (by omega) ?_ ?_ ?_ ?_ <;> simp [qA3]
  all_goals simp [tots]
 ·intro i hi
  simp only [go_sem, qA, qB, qC, qD, qE, qF, qG, qH, qAf]
  repeat refine K ?_
  refine qA2 (fun hc => ?_) (fun hc => ?_)
  ·simp only [decide_eq_true_eq] at hc
   have hl' : i < l.length := by omega
   have ht := qBb wWriteS l [] i hl'
   have htl := qAq wWriteS l (i + 1)
   have hw : wWriteS (l.getD i []) = tots wWrite (l.getD i []) := rfl
   have gb : (cels .bw (mks wWriteS markWriteSF k l)).getD i [] = [.sl .bw 2 (writes .bw (mks wWrite markWriteF (k + tots wWriteS (l.take i)) (l.getD i [])))] := by
    rw [qAi .bw _ i (by rw [qAf]; exact hl'), mks_get _ _ [] l k i hl']
    rfl
   have e5 : k + (tots wWriteS (l.take i) : Int) + ((tots wWrite (l.getD i []) : Nat) : Int) = k + (tots wWriteS (l.take (i + 1)) : Int) := by omega
   have d5 : decide (k + (tots wWriteS (l.take (i + 1)) : Int) < 0) = false := by simp; omega
   simp only [go_sem, qA, qB, qC, qD, qE, qF, qG, qH, gb, qAf]
   repeat refine K ?_
   refine CA [] (heldWriteS_ok (l.getD i []) (k + tots wWriteS (l.take i)) (by omega) (by omega) (by have := hb _ (qAd l i [] hl'); omega)) ?_
   try simp only [go_sem, qA, qB, qC, qD, qE, qF, qG, qH]
   repeat refine K ?_
   try simp only [go_sem, qA, qB, qC, qD, qE, qF, qG, qH, e5, d5, qAf, qA6 (i := i) (by omega)]
   repeat refine K ?_
   refine qA8 (i + 1) (Sub.shape [] id (by omega) ?_ ?_ ?_ ?_) ?_ ?_
   any_goals (first | omega | (simp [qA3]; done))
  ·simp only [decide_eq_false_iff_not] at hc
   have he : l.take i = l := List.take_of_length_le (by omega)
   simp only [go_sem, qA, qB, qC, qD, qE, qF, qG, qH, he]
   repeat refine K ?_
   refine fz ?_; simp [FinS, nilL, nilV, oneOr, -List.drop_one]
theorem markMemory_ok (cs : List (List Write)) (k : Int) (h0 : 0 ≤ k) (h1 : k + tots wWriteS cs < 2 ^ 59) (h2 : cs.length < 2 ^ 59) (hb : ∀ b ∈ cs, b.length < 2 ^ 59) : CallOk Try.prog num 361 [.agg [.ns 0 0 cs.length], .int .i64 k] [(0, some (1, cels .own cs), some (1, cels .own (mks wWriteS markWriteSF k cs)))] (.int .i64 (k + tots wWriteS cs)) := by
 refine EH m361 Try.func43 ?_
 unfold m361
 simp only [go_sem, qA, qB, qC, qD, qE, qF, qG, qH]
 repeat refine K ?_
 refine CA [(0, 0)] (markWriteSS_ok cs k h0 h1 h2 hb) ?_
 try simp only [go_sem, qA, qB, qC, qD, qE, qF, qG, qH]
 repeat refine K ?_
 refine fz ?_; simp [FinS, nilL, nilV, oneOr, -List.drop_one]
theorem heldMemory_ok (cs : List (List Write)) (k : Int) (h0 : 0 ≤ k) (h1 : k + tots wWriteS cs < 2 ^ 59) (h2 : cs.length < 2 ^ 59) (hb : ∀ b ∈ cs, b.length < 2 ^ 59) : CallOk Try.prog num 363 [.agg (memoryC .bw ⟨mks wWriteS markWriteSF k cs⟩), .int .i64 k] [] (.int .i64 (k + tots wWriteS cs)) := by
 refine EN m363 Try.func47 ?_
 unfold m363
 have d1 : decide (k + (tots wWriteS cs : Int) < 0) = false := by simp; omega
 simp only [go_sem, qA, qB, qC, qD, qE, qF, qG, qH]
 repeat refine K ?_
 refine CA [] (heldWriteSS_ok cs k h0 h1 h2 hb) ?_
 try simp only [go_sem, qA, qB, qC, qD, qE, qF, qG, qH]
 repeat refine K ?_
 try simp only [go_sem, qA, qB, qC, qD, qE, qF, qG, qH, d1]
 repeat refine K ?_
 refine fz ?_; simp [FinS, nilL, nilV, oneOr, -List.drop_one]
def machineMarks (k : Int) (m : Machine) : Machine := ⟨mks wStepS markStepSF k m.codes, mks wCore markCoreF (k + tots wStepS m.codes) m.cores, ⟨mks wWriteS markWriteSF (k + tots wStepS m.codes + tots wCore m.cores) m.mem.cells⟩, mks wNote markNoteF (k + tots wStepS m.codes + tots wCore m.cores + tots wWriteS m.mem.cells) m.tr⟩
def machF (k : Int) (m : Machine) : FP := [(0, some (1, codes .own m.codes), some (1, codes .own (mks wStepS markStepSF k m.codes))), (1, some (4, cores .own m.cores), some (4, cores .own (mks wCore markCoreF (k + tots wStepS m.codes) m.cores))), (2, some (1, cels .own m.mem.cells), some (1, cels .own (mks wWriteS markWriteSF (k + tots wStepS m.codes + tots wCore m.cores) m.mem.cells))), (3, some (2, notes m.tr), some (2, notes (mks wNote markNoteF (k + tots wStepS m.codes + tots wCore m.cores + tots wWriteS m.mem.cells) m.tr)))]
theorem markMachine_ok (m : Machine) (k : Int) (h : SmallM m) (h0 : 0 ≤ k) (h1 : k + wMachine m < 2 ^ 58) : CallOk Try.prog num 351 [.agg [.ns 0 0 m.codes.length, .ns 1 0 m.cores.length, .ns 2 0 m.mem.cells.length, .ns 3 0 m.tr.length], .int .i64 k] (machF k m) (.int .i64 (k + wMachine m)) := by
 obtain ⟨g1, g2, g3, g4, g5, ⟨g6, g8, g9⟩, g7⟩ := h
 unfold machF
 refine EH m351 Try.func12 (hh := by refine qB2 _ _ _ _ (qB2 _ _ _ _ (qB2 _ _ _ _ (qB2 _ _ _ _ ((hb_nil _).2 trivial) (by decide) ?_) (by decide) ?_) (by decide) ?_) (by decide) ?_ <;> simp [qAh]) ?_
 unfold m351
 unfold wMachine at h1 ⊢
 push_cast at h1 ⊢
 simp only [go_sem, qA, qB, qC, qD, qE, qF, qG, qH]
 repeat refine K ?_
 refine CA [(0, 0)] (markStepSS_ok m.codes k h0 (by omega) (by omega) (fun b hb => by have := g2 b hb; omega)) ?_
 try simp only [go_sem, qA, qB, qC, qD, qE, qF, qG, qH]
 repeat refine K ?_
 refine CA [(0, 1)] (markCoreS_ok m.cores (k + tots wStepS m.codes) (by omega) (by omega) (by omega)) ?_
 try simp only [go_sem, qA, qB, qC, qD, qE, qF, qG, qH]
 repeat refine K ?_
 refine CA [(0, 2)] (markMemory_ok m.mem.cells (k + tots wStepS m.codes + tots wCore m.cores) (by omega) (by omega) (by omega) (fun b hb => by have := g8 b hb; omega)) ?_
 try simp only [go_sem, qA, qB, qC, qD, qE, qF, qG, qH]
 repeat refine K ?_
 refine CA [(0, 3)] (markNoteS_ok m.tr (k + tots wStepS m.codes + tots wCore m.cores + tots wWriteS m.mem.cells) (by omega) (by omega) (by omega)) ?_
 try simp only [go_sem, qA, qB, qC, qD, qE, qF, qG, qH]
 repeat refine K ?_
 refine fz ?_; simp [FinS, nilL, nilV, oneOr, -List.drop_one]
 all_goals omega
theorem heldMachine_ok (m : Machine) (k : Int) (h : SmallM m) (h0 : 0 ≤ k) (h1 : k + wMachine m < 2 ^ 58) : CallOk Try.prog num 352 [.agg (machineC .bw (machineMarks k m)), .int .i64 k] [] (.int .i64 (k + wMachine m)) := by
 obtain ⟨g1, g2, g3, g4, g5, ⟨g6, g8, g9⟩, g7⟩ := h
 refine EN m352 Try.func13 ?_
 unfold m352
 unfold wMachine at h1 ⊢
 push_cast at h1 ⊢
 have d1 : decide (k + (tots wStepS m.codes : Int) < 0) = false := by simp; omega
 have d2 : decide (k + (tots wStepS m.codes : Int) + (tots wCore m.cores : Int) < 0) = false := by simp; omega
 have d3 : decide (k + (tots wStepS m.codes : Int) + (tots wCore m.cores : Int) + (tots wWriteS m.mem.cells : Int) < 0) = false := by simp; omega
 have d4 : decide (k + (tots wStepS m.codes : Int) + (tots wCore m.cores : Int) + (tots wWriteS m.mem.cells : Int) + (tots wNote m.tr : Int) < 0) = false := by simp; omega
 simp only [go_sem, qA, qB, qC, qD, qE, qF, qG, qH, machineMarks]
 repeat refine K ?_
 refine CA [] (heldStepSS_ok m.codes k h0 (by omega) (by omega) (fun b hb => by have := g2 b hb; omega)) ?_
 try simp only [go_sem, qA, qB, qC, qD, qE, qF, qG, qH]
 repeat refine K ?_
 try simp only [go_sem, qA, qB, qC, qD, qE, qF, qG, qH, d1]
 repeat refine K ?_
 refine CA [] (heldCoreS_ok m.cores (k + tots wStepS m.codes) (by omega) (by omega) (by omega)) ?_
 try simp only [go_sem, qA, qB, qC, qD, qE, qF, qG, qH]
 repeat refine K ?_
 try simp only [go_sem, qA, qB, qC, qD, qE, qF, qG, qH, d2]
 repeat refine K ?_
 refine CA [] (heldMemory_ok m.mem.cells (k + tots wStepS m.codes + tots wCore m.cores) (by omega) (by omega) (by omega) (fun b hb => by have := g8 b hb; omega)) ?_
 try simp only [go_sem, qA, qB, qC, qD, qE, qF, qG, qH]
 repeat refine K ?_
 try simp only [go_sem, qA, qB, qC, qD, qE, qF, qG, qH, d3]
 repeat refine K ?_
 refine CA [] (heldNoteS_ok m.tr (k + tots wStepS m.codes + tots wCore m.cores + tots wWriteS m.mem.cells) (by omega) (by omega) (by omega)) ?_
 try simp only [go_sem, qA, qB, qC, qD, qE, qF, qG, qH]
 repeat refine K ?_
 try simp only [go_sem, qA, qB, qC, qD, qE, qF, qG, qH, d4]
 repeat refine K ?_
 refine fz ?_; simp [FinS, nilL, nilV, oneOr, -List.drop_one]
 all_goals omega
attribute [go_sem] machF
attribute [simp] machF
end Go.Sep
