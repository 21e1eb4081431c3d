/- Contracts of functions. -/
import Derived.Test.YtjbknbgdfhihcaaGreatVa0
namespace Go.Sep
open Go.Proofs
set_option linter.unusedSimpArgs false
set_option linter.unusedVariables false
set_option maxRecDepth 100000
open Nat renaming reduceAdd → qA, reduceMul → qB, reduceEqDiff → qC, reduceBEq → qD
open Int renaming reduceToNat → qE, reduceEq → qF, reduceLT → qG, reduceLE → qH
def m88 : MFn := ⟨88, [.t 6], .seq (xr [xb 3 0, xF 6]) (.seq (.seq (.dreg (.only 0 [] (xv 7 2) (.only 1 [] (xc3 8 59 (.t 7) (xi 0) (xi 3)) (.only 2 [] (xo 9 (.un .«not» (.t 8))) (.only 3 [] (xv 10 9) (.only 4 [] (xg 11 (.fad 0 (.t 3)) 10 false) (.only 5 [] (xg 12 (.load 1 false (.t 11)) 10 false) (.only 6 [] (xg 13 (.call 59 [false, false, false] [.t 12, xi 1, xi 13]) 10 false) (.only 7 [] (xg 14 (.un .«not» (.t 13)) 10 false) (.only 8 [] (xo 15 (.pick (.t 10) (.c (.bool true)) (.t 14))) (.only 9 [] (xv 16 15) (.take 10 (xg 17 (.load 5 true (.t 3)) 16 false) (.only 11 [] (xg 18 (.load 5 true (.t 3)) 16 false) (.only 12 [] (xg 19 (.call 96 [false] [.t 18]) 16 false) (.only 13 [10] (xg 20 (.eqS true [true, true, true, true, true] (.t 17) (.t 19)) 16 false) (.only 14 [13, 10] (xo 21 (.pick (.t 16) (.c (.bool true)) (.t 20))) (.only 15 [14, 13, 10] (xv 22 21) (.only 16 [15, 14, 13, 10] (xg 23 (.fad 1 (.t 3)) 22 false) (.only 17 [15, 14, 13, 10] (xg 24 (.load 1 false (.t 23)) 22 false) (.only 18 [15, 14, 13, 10] (xg 25 (.call 97 [false] [.t 24]) 22 false) (.only 19 [15, 14, 13, 10] (xg 26 (.un .«not» (.t 25)) 22 false) (.only 20 [15, 14, 13, 10] (xo 27 (.pick (.t 22) (.c (.bool true)) (.t 26))) (.only 21 [18, 15, 14, 13, 10] (xv 28 27) (.only 22 [21, 18, 15, 14, 13, 10] (xg 29 (.fad 2 (.t 3)) 28 false) (.only 23 [21, 18, 15, 14, 13, 10] (xg 30 (.load 1 false (.t 29)) 28 false) (.only 24 [21, 18, 15, 14, 13, 10] (xg 31 (.call 97 [false] [.t 30]) 28 false) (.only 25 [21, 18, 15, 14, 13, 10] (xg 32 (.un .«not» (.t 31)) 28 false) (.only 26 [21, 18, 15, 14, 13, 10] (xo 33 (.pick (.t 28) (.c (.bool true)) (.t 32))) (.only 27 [24, 21, 18, 15, 14, 13, 10] (xv 34 33) (.only 28 [27, 24, 21, 18, 15, 14, 13, 10] (xg 35 (.fad 3 (.t 3)) 34 false) (.only 29 [27, 24, 21, 18, 15, 14, 13, 10] (xg 36 (.load 1 false (.t 35)) 34 false) (.only 30 [27, 24, 21, 18, 15, 14, 13, 10] (xg 37 (.call 97 [false] [.t 36]) 34 false) (.only 31 [27, 24, 21, 18, 15, 14, 13, 10] (xg 38 (.un .«not» (.t 37)) 34 false) (.only 32 [27, 24, 21, 18, 15, 14, 13, 10] (xo 39 (.pick (.t 34) (.c (.bool true)) (.t 38))) (.done))))))))))))))))))))))))))))))))))) (.cond 39 (.seq (xr [xF 6]) (.ret)) (.skip))) (.seq (.blk 0 (.seq (xr [xa 41 0 3, xl 42 41, xo 43 (.bin .eql (.t 42) (xi 1)), xv 40 43]) (.cond 40 (.seq (xr [xa 44 4 3, xl 45 44, xc3 46 59 (.t 45) (.c (.int .i64 (-1000000000))) (xi 1000000000), xv 6 46]) (.ret)) (.seq (xr [xa 48 0 3, xl 49 48, xo 50 (.bin .eql (.t 49) (xi 11)), xv 51 50, xg 52 (.fad 0 (.t 3)) 51 false, xg 53 (.load 1 false (.t 52)) 51 false, xg 54 (.bin .eql (.t 53) (xi 12)) 51 false, xo 55 (.pick (.t 51) (.c (.bool true)) (.t 54)), xv 47 55]) (.cond 47 (.seq (xr [xa 56 4 3, xl 57 56, xv 58 1, xo 59 (.bin .sub (.t 58) (xi 1)), xc3 60 59 (.t 57) (xi 0) (.t 59), xv 6 60]) (.ret)) (.seq (xr [xa 62 0 3, xl 63 62, xo 64 (.bin .eql (.t 63) (xi 6)), xv 65 64, xg 66 (.fad 0 (.t 3)) 65 false, xg 67 (.load 1 false (.t 66)) 65 false, xg 68 (.bin .eql (.t 67) (xi 8)) 65 false, xo 69 (.pick (.t 65) (.c (.bool true)) (.t 68)), xv 70 69, xg 71 (.fad 1 (.t 3)) 70 true, xg 72 (.load 1 false (.t 71)) 70 true, xg 73 (.fad 3 (.t 3)) 70 true, xg 74 (.load 1 false (.t 73)) 70 true, xg 75 (.bin .eql (.t 72) (.t 74)) 70 true, xo 76 (.pick (.t 70) (.t 75) (.c (.bool false))), xv 61 76]) (.cond 61 (.seq (xr [xF 6]) (.ret)) (.skip)))))))) (.seq (xr [xa 77 0 3, xl 78 77, xc1 79 44 (.t 78), xo 80 (.un .«not» (.t 79)), xv 81 80, xg 82 (.fad 4 (.t 3)) 81 false, xg 83 (.load 1 false (.t 82)) 81 false, xg 84 (.mv (.t 2)) 81 false, xg 85 (.bin .sub (.t 84) (xi 1)) 81 false, xg 86 (.call 59 [false, false, false] [.t 83, xi 0, .t 85]) 81 false, xo 87 (.pick (.t 81) (.c (.bool true)) (.t 86)), xv 6 87]) (.ret))))⟩
set_option maxHeartbeats 4000000 in
theorem implInsOk_ok (x : Ins) (pl ch : Int) (h0 : -(2 ^ 62) ≤ ch) (h1 : ch < 2 ^ 62) (h2 : -(2 ^ 62) ≤ pl) (h3 : pl < 2 ^ 62) : CallOk Tryz.prog num 88 [.agg (insC x), .int .i64 pl, .int .i64 ch] [] (.bool (insOk x pl ch)) := by
 rw [← insOkF_eq]
 refine EN m88 Tryz.func219 ?_
 unfold m88
 have hw : IntKind.i64.wrap (ch - 1) = ch - 1 := qAl (by omega) (by omega)
 have hw2 : IntKind.i64.wrap (pl - 1) = pl - 1 := qAl (by omega) (by omega)
 repeat' (first
  | (simp only [go_sem, qA, qB, qC, qD, qE, qF, qG, qH, hw, hw2])
  | (refine qA1 (fun hc => ?_) (fun hc => ?_) <;> ((try simp only [Bool.not_eq_true', Bool.not_eq_false', ne_eq, Bool.not_eq_true, Bool.not_eq_false] at hc) <;> (try simp only [hc])))
  | (refine qB7 (fun hc => ?_) (fun hc => ?_) <;> ((try simp only [Bool.not_eq_true', Bool.not_eq_false', ne_eq, Bool.not_eq_true, Bool.not_eq_false] at hc) <;> (try simp only [hc])))
  | (refine qAz (fun hc => ?_) (fun hc => ?_) <;> ((try simp only [Bool.not_eq_true', Bool.not_eq_false', ne_eq, Bool.not_eq_true, Bool.not_eq_false] at hc) <;> (try simp only [hc])))
  | (refine qBm (qAi _ _ _) rfl rfl rfl rfl ?_)
  | (refine qB3 (qAi _ _ _) rfl rfl rfl rfl ?_)
  | (refine qBm (isReg_ok _) rfl rfl rfl rfl ?_)
  | (refine qB3 (isReg_ok _) rfl rfl rfl rfl ?_)
  | (refine qBm (named_ok _) rfl rfl rfl rfl ?_)
  | (refine qB3 (named_ok _) rfl rfl rfl rfl ?_)
  | (refine qBm (ofChan_ok _) rfl rfl rfl rfl ?_)
  | (refine qB3 (ofChan_ok _) rfl rfl rfl rfl ?_)
  | (refine ⟨by first | omega | (simp; done), ?_⟩)
  | fail)
 all_goals (refine fz ?_; simp [FinS, nilL, nilV, oneOr, -List.drop_one])
 all_goals (try (simp_all [insOkF]; done))
 all_goals (try (simp_all [insOkF]; omega))
end Go.Sep
