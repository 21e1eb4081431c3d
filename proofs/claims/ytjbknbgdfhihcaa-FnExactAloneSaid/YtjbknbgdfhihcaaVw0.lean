/- Contracts of functions. -/
import Derived.Test.YtjbknbgdfhihcaaVv0
namespace Go.Sep
open Go.Proofs
set_option linter.unusedSimpArgs false
set_option linter.unusedVariables false
set_option maxRecDepth 100000
open Nat renaming reduceAdd → qA, reduceMul → qB, reduceEqDiff → qC, reduceBEq → qD
open Int renaming reduceToNat → qE, reduceEq → qF, reduceLT → qG, reduceLE → qH
def m261 : MFn := ⟨161, [.t 4], .seq (xr [xb 2 0, xF 4]) (.seq (xr [xa 8 0 2, xl 9 8, xo 10 (.bin .eql (.t 9) (xi 5)), xv 11 10, xg 12 (.fad 0 (.t 2)) 11 false, xg 13 (.load 1 false (.t 12)) 11 false, xg 14 (.bin .eql (.t 13) (xi 6)) 11 false, xo 15 (.pick (.t 11) (.c (.bool true)) (.t 14)), xv 16 15, xg 17 (.fad 0 (.t 2)) 16 false, xg 18 (.load 1 false (.t 17)) 16 false, xg 19 (.bin .eql (.t 18) (xi 7)) 16 false, xo 20 (.pick (.t 16) (.c (.bool true)) (.t 19)), xv 5 20]) (.seq (.seq (xr [xa 21 1 2, xl 22 21, xc1 23 301 (.t 22), xo 24 (.un .«not» (.t 23)), xv 25 24, xg 26 (.fad 3 (.t 2)) 25 false, xg 27 (.load 1 false (.t 26)) 25 false, xg 28 (.call 301 [false] [.t 27]) 25 false, xg 29 (.un .«not» (.t 28)) 25 false, xo 30 (.pick (.t 25) (.c (.bool true)) (.t 29)), xv 31 30, xg 32 (.fad 2 (.t 2)) 31 false, xg 33 (.load 1 false (.t 32)) 31 false, xg 34 (.call 301 [false] [.t 33]) 31 false, xg 35 (.un .«not» (.t 34)) 31 false, xg 36 (.mv (.t 35)) 31 false, xg 37 (.mv (.t 5)) 36 true, xg 38 (.un .«not» (.t 37)) 36 true, xg 39 (.mv (.t 38)) 36 true, xg 40 (.fad 2 (.t 2)) 39 false, xg 41 (.load 1 false (.t 40)) 39 false, xg 42 (.bin .neq (.t 41) (.c (.int .i64 (-1)))) 39 false, xg 43 (.pick (.t 39) (.c (.bool true)) (.t 42)) 36 true, xg 44 (.pick (.t 36) (.t 43) (.c (.bool false))) 31 false, xo 45 (.pick (.t 31) (.c (.bool true)) (.t 44))]) (.cond 45 (.seq (xr [xF 4]) (.ret)) (.skip))) (.seq (xr [xa 46 4 2, xl 47 46, xo 48 (.bin .geq (.t 47) (xi 0)), xv 49 48, xg 50 (.fad 4 (.t 2)) 49 true, xg 51 (.load 1 false (.t 50)) 49 true, xg 52 (.mv (.t 1)) 49 true, xg 53 (.bin .lss (.t 51) (.t 52)) 49 true, xo 54 (.pick (.t 49) (.t 53) (.c (.bool false))), xv 6 54]) (.seq (xr [xa 55 4 2, xl 56 55, xc3 57 64 (.t 56) (xi 0) (xi 23), xv 7 57]) (.seq (.seq (xr [xa 58 0 2, xl 59 58]) (.blk 0 (.seq (xr [xo 61 (.bin .eql (.t 59) (xi 1)), xv 60 61]) (.cond 60 (.seq (xr [xa 62 4 2, xl 63 62, xc3 64 64 (.t 63) (.c (.int .i64 (-1000000000))) (xi 1000000000), xv 65 64, xg 66 (.fad 2 (.t 2)) 65 true, xg 67 (.load 1 false (.t 66)) 65 true, xg 68 (.bin .eql (.t 67) (xi 0)) 65 true, xo 69 (.pick (.t 65) (.t 68) (.c (.bool false))), xv 70 69, xg 71 (.fad 3 (.t 2)) 70 true, xg 72 (.load 1 false (.t 71)) 70 true, xg 73 (.bin .eql (.t 72) (xi 0)) 70 true, xo 74 (.pick (.t 70) (.t 73) (.c (.bool false))), xv 4 74]) (.ret)) (.seq (.seq (xr [xo 76 (.bin .eql (.t 59) (xi 2)), xv 75 76]) (.cond 75 (.skip) (.seq (xr [xo 77 (.bin .eql (.t 59) (xi 3)), xv 75 77]) (.cond 75 (.skip) (xr [xo 78 (.bin .eql (.t 59) (xi 4)), xv 75 78]))))) (.cond 75 (.seq (xr [xa 79 4 2, xl 80 79, xo 81 (.bin .eql (.t 80) (xi 0)), xv 4 81]) (.ret)) (.seq (xr [xo 83 (.bin .eql (.t 59) (xi 5)), xv 82 83]) (.cond 82 (.seq (xr [xv 84 7, xv 85 84, xg 86 (.fad 3 (.t 2)) 85 true, xg 87 (.load 1 false (.t 86)) 85 true, xg 88 (.bin .eql (.t 87) (xi 0)) 85 true, xo 89 (.pick (.t 85) (.t 88) (.c (.bool false))), xv 4 89]) (.ret)) (.seq (.seq (xr [xo 91 (.bin .eql (.t 59) (xi 6)), xv 90 91]) (.cond 90 (.skip) (xr [xo 92 (.bin .eql (.t 59) (xi 7)), xv 90 92]))) (.cond 90 (.seq (xr [xv 93 7, xv 94 93, xg 95 (.fad 1 (.t 2)) 94 true, xg 96 (.load 1 false (.t 95)) 94 true, xg 97 (.bin .eql (.t 96) (xi 0)) 94 true, xo 98 (.pick (.t 94) (.t 97) (.c (.bool false))), xv 4 98]) (.ret)) (.seq (xr [xo 100 (.bin .eql (.t 59) (xi 8)), xv 99 100]) (.cond 99 (.seq (xr [xv 101 7, xv 102 101, xg 103 (.fad 2 (.t 2)) 102 true, xg 104 (.load 1 false (.t 103)) 102 true, xg 105 (.bin .eql (.t 104) (xi 0)) 102 true, xo 106 (.pick (.t 102) (.t 105) (.c (.bool false))), xv 4 106]) (.ret)) (.seq (xr [xo 108 (.bin .eql (.t 59) (xi 9)), xv 107 108]) (.cond 107 (.seq (xr [xa 109 1 2, xl 110 109, xo 111 (.bin .eql (.t 110) (xi 0)), xv 112 111, xg 113 (.fad 3 (.t 2)) 112 true, xg 114 (.load 1 false (.t 113)) 112 true, xg 115 (.bin .eql (.t 114) (xi 0)) 112 true, xo 116 (.pick (.t 112) (.t 115) (.c (.bool false))), xv 117 116, xg 118 (.fad 4 (.t 2)) 117 true, xg 119 (.load 1 false (.t 118)) 117 true, xg 120 (.bin .eql (.t 119) (xi 0)) 117 true, xo 121 (.pick (.t 117) (.t 120) (.c (.bool false))), xv 4 121]) (.ret)) (.seq (xr [xo 123 (.bin .eql (.t 59) (xi 10)), xv 122 123]) (.cond 122 (.seq (xr [xv 124 6, xv 125 124, xg 126 (.fad 1 (.t 2)) 125 true, xg 127 (.load 1 false (.t 126)) 125 true, xg 128 (.bin .eql (.t 127) (xi 0)) 125 true, xo 129 (.pick (.t 125) (.t 128) (.c (.bool false))), xv 130 129, xg 131 (.fad 2 (.t 2)) 130 true, xg 132 (.load 1 false (.t 131)) 130 true, xg 133 (.bin .eql (.t 132) (xi 0)) 130 true, xo 134 (.pick (.t 130) (.t 133) (.c (.bool false))), xv 135 134, xg 136 (.fad 3 (.t 2)) 135 true, xg 137 (.load 1 false (.t 136)) 135 true, xg 138 (.bin .eql (.t 137) (xi 0)) 135 true, xo 139 (.pick (.t 135) (.t 138) (.c (.bool false))), xv 4 139]) (.ret)) (.seq (xr [xo 141 (.bin .eql (.t 59) (xi 11)), xv 140 141]) (.cond 140 (.seq (xr [xv 142 6, xv 143 142, xg 144 (.fad 1 (.t 2)) 143 true, xg 145 (.load 1 false (.t 144)) 143 true, xg 146 (.bin .eql (.t 145) (xi 0)) 143 true, xo 147 (.pick (.t 143) (.t 146) (.c (.bool false))), xv 148 147, xg 149 (.fad 3 (.t 2)) 148 true, xg 150 (.load 1 false (.t 149)) 148 true, xg 151 (.bin .eql (.t 150) (xi 0)) 148 true, xo 152 (.pick (.t 148) (.t 151) (.c (.bool false))), xv 4 152]) (.ret)) (.seq (.seq (xr [xo 154 (.bin .eql (.t 59) (xi 12)), xv 153 154]) (.cond 153 (.skip) (xr [xo 155 (.bin .eql (.t 59) (xi 13)), xv 153 155]))) (.cond 153 (.seq (xr [xm 156 5 2, xa 157 0 2, xl 158 157, xo 159 (.build [xz, xz, xz, xz, xz] [(0, 1, .t 158)]), xo 160 (.eqS false [true, true, true, true, true] (.t 156) (.t 159)), xv 4 160]) (.ret)) (.skip))))))))))))))))))))) (.seq (xr [xF 4]) (.ret)))))))⟩
set_option maxHeartbeats 8000000 in
theorem specStepOk_ok (x : Step) (pl : Int) : CallOk Try.prog num 261 [.agg (stepC x), .int .i64 pl] [] (.bool (stepOk x pl)) := by
 refine EN m261 Try.func113 ?_
 unfold m261
 have hz : within 0 0 7 = true := by decide
 by_cases e5 : x.op = 5
 ·skip
  simp only [go_sem, qA, qB, qC, qD, qE, qF, qG, qH, e5]
  repeat refine K ?_
  refine CA [] (qCq x.r) ?_
  try simp only [go_sem, qA, qB, qC, qD, qE, qF, qG, qH]
  repeat refine K ?_
  cases hr : within x.r 0 7
  ·try simp only [go_sem, qA, qB, qC, qD, qE, qF, qG, qH, hr]
   repeat refine K ?_
   refine fz ?_; simp [FinS, nilL, nilV, oneOr, -List.drop_one]
   simp [stepOk, hr]
  try simp only [go_sem, qA, qB, qC, qD, qE, qF, qG, qH, hr, e5]
  repeat refine K ?_
  refine CA [] (qCq x.b) ?_
  try simp only [go_sem, qA, qB, qC, qD, qE, qF, qG, qH]
  repeat refine K ?_
  cases hb : within x.b 0 7
  ·try simp only [go_sem, qA, qB, qC, qD, qE, qF, qG, qH, hb]
   repeat refine K ?_
   refine fz ?_; simp [FinS, nilL, nilV, oneOr, -List.drop_one]
   simp [stepOk, hb]
  try simp only [go_sem, qA, qB, qC, qD, qE, qF, qG, qH, hb, e5]
  repeat refine K ?_
  refine CA [] (qCq x.a) ?_
  try simp only [go_sem, qA, qB, qC, qD, qE, qF, qG, qH]
  repeat refine K ?_
  cases ha : within x.a 0 7
  ·by_cases ha1 : x.a = -1
   ·try simp only [go_sem, qA, qB, qC, qD, qE, qF, qG, qH, ha, ha1, e5]
    repeat refine K ?_
    by_cases hn : 0 ≤ x.n
    all_goals
     try simp only [go_sem, qA, qB, qC, qD, qE, qF, qG, qH, hn, e5, ha, ha1]
     repeat refine K ?_
     refine CA [] (qAy x.n 0 23) ?_
     try simp only [go_sem, qA, qB, qC, qD, qE, qF, qG, qH]
     repeat refine K ?_
     cases hc : within x.n 0 23
     ·try simp only [go_sem, qA, qB, qC, qD, qE, qF, qG, qH, hc, e5, ha, ha1]
      repeat refine K ?_
      refine fz ?_; simp [FinS, nilL, nilV, oneOr, -List.drop_one]
      simp [stepOk, hc, hr, hb, e5, ha, ha1]
     try simp only [go_sem, qA, qB, qC, qD, qE, qF, qG, qH, hc, e5, ha, ha1]
     repeat refine K ?_
     refine fz ?_; simp [FinS, nilL, nilV, oneOr, -List.drop_one]
     simp [stepOk, hc, hr, hb, e5, ha, ha1]
   ·try simp only [go_sem, qA, qB, qC, qD, qE, qF, qG, qH, ha, ha1, e5]
    repeat refine K ?_
    refine fz ?_; simp [FinS, nilL, nilV, oneOr, -List.drop_one]
    simp [stepOk, ha, ha1]
  try simp only [go_sem, qA, qB, qC, qD, qE, qF, qG, qH, ha, e5]
  repeat refine K ?_
  by_cases hn : 0 ≤ x.n
  all_goals
   try simp only [go_sem, qA, qB, qC, qD, qE, qF, qG, qH, hn, e5, ha]
   repeat refine K ?_
   refine CA [] (qAy x.n 0 23) ?_
   try simp only [go_sem, qA, qB, qC, qD, qE, qF, qG, qH]
   repeat refine K ?_
   cases hc : within x.n 0 23
   ·try simp only [go_sem, qA, qB, qC, qD, qE, qF, qG, qH, hc, e5, ha]
    repeat refine K ?_
    refine fz ?_; simp [FinS, nilL, nilV, oneOr, -List.drop_one]
    simp [stepOk, hc, hr, hb, e5, ha]
   try simp only [go_sem, qA, qB, qC, qD, qE, qF, qG, qH, hc, e5, ha]
   repeat refine K ?_
   refine fz ?_; simp [FinS, nilL, nilV, oneOr, -List.drop_one]
   simp [stepOk, hc, hr, hb, e5, ha]
 by_cases e6 : x.op = 6
 ·skip
  simp only [go_sem, qA, qB, qC, qD, qE, qF, qG, qH, e6]
  repeat refine K ?_
  refine CA [] (qCq x.r) ?_
  try simp only [go_sem, qA, qB, qC, qD, qE, qF, qG, qH]
  repeat refine K ?_
  cases hr : within x.r 0 7
  ·try simp only [go_sem, qA, qB, qC, qD, qE, qF, qG, qH, hr]
   repeat refine K ?_
   refine fz ?_; simp [FinS, nilL, nilV, oneOr, -List.drop_one]
   simp [stepOk, hr]
  try simp only [go_sem, qA, qB, qC, qD, qE, qF, qG, qH, hr, e6]
  repeat refine K ?_
  refine CA [] (qCq x.b) ?_
  try simp only [go_sem, qA, qB, qC, qD, qE, qF, qG, qH]
  repeat refine K ?_
  cases hb : within x.b 0 7
  ·try simp only [go_sem, qA, qB, qC, qD, qE, qF, qG, qH, hb]
   repeat refine K ?_
   refine fz ?_; simp [FinS, nilL, nilV, oneOr, -List.drop_one]
   simp [stepOk, hb]
  try simp only [go_sem, qA, qB, qC, qD, qE, qF, qG, qH, hb, e6]
  repeat refine K ?_
  refine CA [] (qCq x.a) ?_
  try simp only [go_sem, qA, qB, qC, qD, qE, qF, qG, qH]
  repeat refine K ?_
  cases ha : within x.a 0 7
  ·by_cases ha1 : x.a = -1
   ·try simp only [go_sem, qA, qB, qC, qD, qE, qF, qG, qH, ha, ha1, e6]
    repeat refine K ?_
    by_cases hn : 0 ≤ x.n
    all_goals
     try simp only [go_sem, qA, qB, qC, qD, qE, qF, qG, qH, hn, e6, ha, ha1]
     repeat refine K ?_
     refine CA [] (qAy x.n 0 23) ?_
     try simp only [go_sem, qA, qB, qC, qD, qE, qF, qG, qH]
     repeat refine K ?_
     cases hc : within x.n 0 23
     ·try simp only [go_sem, qA, qB, qC, qD, qE, qF, qG, qH, hc, e6, ha, ha1]
      repeat refine K ?_
      refine fz ?_; simp [FinS, nilL, nilV, oneOr, -List.drop_one]
      simp [stepOk, hc, hr, hb, e6, ha, ha1]
     try simp only [go_sem, qA, qB, qC, qD, qE, qF, qG, qH, hc, e6, ha, ha1]
     repeat refine K ?_
     refine fz ?_; simp [FinS, nilL, nilV, oneOr, -List.drop_one]
     simp [stepOk, hc, hr, hb, e6, ha, ha1]
   ·try simp only [go_sem, qA, qB, qC, qD, qE, qF, qG, qH, ha, ha1, e6]
    repeat refine K ?_
    refine fz ?_; simp [FinS, nilL, nilV, oneOr, -List.drop_one]
    simp [stepOk, ha, ha1]
  try simp only [go_sem, qA, qB, qC, qD, qE, qF, qG, qH, ha, e6]
  repeat refine K ?_
  by_cases hn : 0 ≤ x.n
  all_goals
   try simp only [go_sem, qA, qB, qC, qD, qE, qF, qG, qH, hn, e6, ha]
   repeat refine K ?_
   refine CA [] (qAy x.n 0 23) ?_
   try simp only [go_sem, qA, qB, qC, qD, qE, qF, qG, qH]
   repeat refine K ?_
   cases hc : within x.n 0 23
   ·try simp only [go_sem, qA, qB, qC, qD, qE, qF, qG, qH, hc, e6, ha]
    repeat refine K ?_
    refine fz ?_; simp [FinS, nilL, nilV, oneOr, -List.drop_one]
    simp [stepOk, hc, hr, hb, e6, ha]
   try simp only [go_sem, qA, qB, qC, qD, qE, qF, qG, qH, hc, e6, ha]
   repeat refine K ?_
   refine fz ?_; simp [FinS, nilL, nilV, oneOr, -List.drop_one]
   simp [stepOk, hc, hr, hb, e6, ha]
 by_cases e7 : x.op = 7
 ·skip
  simp only [go_sem, qA, qB, qC, qD, qE, qF, qG, qH, e7]
  repeat refine K ?_
  refine CA [] (qCq x.r) ?_
  try simp only [go_sem, qA, qB, qC, qD, qE, qF, qG, qH]
  repeat refine K ?_
  cases hr : within x.r 0 7
  ·try simp only [go_sem, qA, qB, qC, qD, qE, qF, qG, qH, hr]
   repeat refine K ?_
   refine fz ?_; simp [FinS, nilL, nilV, oneOr, -List.drop_one]
   simp [stepOk, hr]
  try simp only [go_sem, qA, qB, qC, qD, qE, qF, qG, qH, hr, e7]
  repeat refine K ?_
  refine CA [] (qCq x.b) ?_
  try simp only [go_sem, qA, qB, qC, qD, qE, qF, qG, qH]
  repeat refine K ?_
  cases hb : within x.b 0 7
  ·try simp only [go_sem, qA, qB, qC, qD, qE, qF, qG, qH, hb]
   repeat refine K ?_
   refine fz ?_; simp [FinS, nilL, nilV, oneOr, -List.drop_one]
   simp [stepOk, hb]
  try simp only [go_sem, qA, qB, qC, qD, qE, qF, qG, qH, hb, e7]
  repeat refine K ?_
  refine CA [] (qCq x.a) ?_
  try simp only [go_sem, qA, qB, qC, qD, qE, qF, qG, qH]
  repeat refine K ?_
  cases ha : within x.a 0 7
  ·by_cases ha1 : x.a = -1
   ·try simp only [go_sem, qA, qB, qC, qD, qE, qF, qG, qH, ha, ha1, e7]
    repeat refine K ?_
    by_cases hn : 0 ≤ x.n
    all_goals
     try simp only [go_sem, qA, qB, qC, qD, qE, qF, qG, qH, hn, e7, ha, ha1]
     repeat refine K ?_
     refine CA [] (qAy x.n 0 23) ?_
     try simp only [go_sem, qA, qB, qC, qD, qE, qF, qG, qH]
     repeat refine K ?_
     cases hc : within x.n 0 23
     ·try simp only [go_sem, qA, qB, qC, qD, qE, qF, qG, qH, hc, e7, ha, ha1]
      repeat refine K ?_
      refine fz ?_; simp [FinS, nilL, nilV, oneOr, -List.drop_one]
      simp [stepOk, hc, hr, hb, e7, ha, ha1]
     try simp only [go_sem, qA, qB, qC, qD, qE, qF, qG, qH, hc, e7, ha, ha1]
     repeat refine K ?_
     refine fz ?_; simp [FinS, nilL, nilV, oneOr, -List.drop_one]
     simp [stepOk, hc, hr, hb, e7, ha, ha1]
   ·try simp only [go_sem, qA, qB, qC, qD, qE, qF, qG, qH, ha, ha1, e7]
    repeat refine K ?_
    refine fz ?_; simp [FinS, nilL, nilV, oneOr, -List.drop_one]
    simp [stepOk, ha, ha1]
  try simp only [go_sem, qA, qB, qC, qD, qE, qF, qG, qH, ha, e7]
  repeat refine K ?_
  by_cases hn : 0 ≤ x.n
  all_goals
   try simp only [go_sem, qA, qB, qC, qD, qE, qF, qG, qH, hn, e7, ha]
   repeat refine K ?_
   refine CA [] (qAy x.n 0 23) ?_
   try simp only [go_sem, qA, qB, qC, qD, qE, qF, qG, qH]
   repeat refine K ?_
   cases hc : within x.n 0 23
   ·try simp only [go_sem, qA, qB, qC, qD, qE, qF, qG, qH, hc, e7, ha]
    repeat refine K ?_
    refine fz ?_; simp [FinS, nilL, nilV, oneOr, -List.drop_one]
    simp [stepOk, hc, hr, hb, e7, ha]
   try simp only [go_sem, qA, qB, qC, qD, qE, qF, qG, qH, hc, e7, ha]
   repeat refine K ?_
   refine fz ?_; simp [FinS, nilL, nilV, oneOr, -List.drop_one]
   simp [stepOk, hc, hr, hb, e7, ha]
 simp only [go_sem, qA, qB, qC, qD, qE, qF, qG, qH, e5, e6, e7]
 repeat refine K ?_
 refine CA [] (qCq x.r) ?_
 try simp only [go_sem, qA, qB, qC, qD, qE, qF, qG, qH]
 repeat refine K ?_
 cases hr : within x.r 0 7
 ·try simp only [go_sem, qA, qB, qC, qD, qE, qF, qG, qH, hr]
  repeat refine K ?_
  refine fz ?_; simp [FinS, nilL, nilV, oneOr, -List.drop_one]
  simp [stepOk, hr]
 try simp only [go_sem, qA, qB, qC, qD, qE, qF, qG, qH, hr, e5, e6, e7]
 repeat refine K ?_
 refine CA [] (qCq x.b) ?_
 try simp only [go_sem, qA, qB, qC, qD, qE, qF, qG, qH]
 repeat refine K ?_
 cases hb : within x.b 0 7
 ·try simp only [go_sem, qA, qB, qC, qD, qE, qF, qG, qH, hb]
  repeat refine K ?_
  refine fz ?_; simp [FinS, nilL, nilV, oneOr, -List.drop_one]
  simp [stepOk, hb]
 try simp only [go_sem, qA, qB, qC, qD, qE, qF, qG, qH, hb, e5, e6, e7]
 repeat refine K ?_
 refine CA [] (qCq x.a) ?_
 try simp only [go_sem, qA, qB, qC, qD, qE, qF, qG, qH]
 repeat refine K ?_
 cases ha : within x.a 0 7
 ·try simp only [go_sem, qA, qB, qC, qD, qE, qF, qG, qH, ha, e5, e6, e7]
  repeat refine K ?_
  refine fz ?_; simp [FinS, nilL, nilV, oneOr, -List.drop_one]
  simp [ha, e5, e6, e7, stepOk]
 try simp only [go_sem, qA, qB, qC, qD, qE, qF, qG, qH, ha, e5, e6, e7]
 repeat refine K ?_
 by_cases hn : 0 ≤ x.n
 all_goals
  try simp only [go_sem, qA, qB, qC, qD, qE, qF, qG, qH, hn]
  repeat refine K ?_
  refine CA [] (qAy x.n 0 23) ?_
  try simp only [go_sem, qA, qB, qC, qD, qE, qF, qG, qH]
  repeat refine K ?_
  by_cases e1 : x.op = 1
  ·skip
   try simp only [go_sem, qA, qB, qC, qD, qE, qF, qG, qH, e5, e6, e7, ha, hn, e1]
   repeat refine K ?_
   refine CA [] (qAy x.n (-1000000000) 1000000000) ?_
   try simp only [go_sem, qA, qB, qC, qD, qE, qF, qG, qH]
   repeat refine K ?_
   cases hw : within x.n (-1000000000) 1000000000
   ·try simp only [go_sem, qA, qB, qC, qD, qE, qF, qG, qH, hw]
    repeat refine K ?_
    refine fz ?_; simp [FinS, nilL, nilV, oneOr, -List.drop_one]
    simp [stepOk, hw, hr, hb, e5, e6, e7, ha, hn, e1]
   try simp only [go_sem, qA, qB, qC, qD, qE, qF, qG, qH, hw]
   repeat refine K ?_
   by_cases q0 : x.a = 0
   case neg =>
    try simp only [go_sem, qA, qB, qC, qD, qE, qF, qG, qH, q0, e5, e6, e7, ha, hn, e1, hw]
    repeat refine K ?_
    refine fz ?_; simp [FinS, nilL, nilV, oneOr, -List.drop_one]
    simp [stepOk, hr, hb, e5, e6, e7, ha, hn, e1, hw, q0]
   by_cases q1 : x.b = 0
   case neg =>
    try simp only [go_sem, qA, qB, qC, qD, qE, qF, qG, qH, q1, e5, e6, e7, ha, hn, e1, hw, q0]
    repeat refine K ?_
    refine fz ?_; simp [FinS, nilL, nilV, oneOr, -List.drop_one]
    simp [stepOk, hr, hb, e5, e6, e7, ha, hn, e1, hw, q0, q1]
   try simp only [go_sem, qA, qB, qC, qD, qE, qF, qG, qH, e5, e6, e7, ha, hn, e1, hw, q0, q1]
   repeat refine K ?_
   refine fz ?_; simp [FinS, nilL, nilV, oneOr, -List.drop_one]
   simp [stepOk, hr, hb, hz, e5, e6, e7, ha, hn, e1, hw, q0, q1]
  by_cases e2 : x.op = 2
  ·skip
   try simp only [go_sem, qA, qB, qC, qD, qE, qF, qG, qH, e5, e6, e7, ha, hn, e1, e2]
   repeat refine K ?_
   refine fz ?_; simp [FinS, nilL, nilV, oneOr, -List.drop_one]
   simp [stepOk, hr, hb, e5, e6, e7, ha, hn, e1, e2]
  by_cases e3 : x.op = 3
  ·skip
   try simp only [go_sem, qA, qB, qC, qD, qE, qF, qG, qH, e5, e6, e7, ha, hn, e1, e2, e3]
   repeat refine K ?_
   refine fz ?_; simp [FinS, nilL, nilV, oneOr, -List.drop_one]
   simp [stepOk, hr, hb, e5, e6, e7, ha, hn, e1, e2, e3]
  by_cases e4 : x.op = 4
  ·skip
   try simp only [go_sem, qA, qB, qC, qD, qE, qF, qG, qH, e5, e6, e7, ha, hn, e1, e2, e3, e4]
   repeat refine K ?_
   refine fz ?_; simp [FinS, nilL, nilV, oneOr, -List.drop_one]
   simp [stepOk, hr, hb, e5, e6, e7, ha, hn, e1, e2, e3, e4]
  by_cases e8 : x.op = 8
  ·skip
   cases hc : within x.n 0 23
   ·try simp only [go_sem, qA, qB, qC, qD, qE, qF, qG, qH, hc, e5, e6, e7, ha, hn, e1, e2, e3, e4, e8]
    repeat refine K ?_
    refine fz ?_; simp [FinS, nilL, nilV, oneOr, -List.drop_one]
    simp [stepOk, hc, hr, hb, e5, e6, e7, ha, hn, e1, e2, e3, e4, e8]
   try simp only [go_sem, qA, qB, qC, qD, qE, qF, qG, qH, hc, e5, e6, e7, ha, hn, e1, e2, e3, e4, e8]
   repeat refine K ?_
   refine fz ?_; simp [FinS, nilL, nilV, oneOr, -List.drop_one]
   simp [stepOk, hc, hr, hb, e5, e6, e7, ha, hn, e1, e2, e3, e4, e8]
  by_cases e9 : x.op = 9
  ·skip
   try simp only [go_sem, qA, qB, qC, qD, qE, qF, qG, qH, e5, e6, e7, ha, hn, e1, e2, e3, e4, e8, e9]
   repeat refine K ?_
   by_cases q0 : x.r = 0
   case neg =>
    try simp only [go_sem, qA, qB, qC, qD, qE, qF, qG, qH, q0, e5, e6, e7, ha, hn, e1, e2, e3, e4, e8, e9]
    repeat refine K ?_
    refine fz ?_; simp [FinS, nilL, nilV, oneOr, -List.drop_one]
    simp [stepOk, hr, hb, e5, e6, e7, ha, hn, e1, e2, e3, e4, e8, e9, q0]
   by_cases q1 : x.b = 0
   case neg =>
    try simp only [go_sem, qA, qB, qC, qD, qE, qF, qG, qH, q1, e5, e6, e7, ha, hn, e1, e2, e3, e4, e8, e9, q0]
    repeat refine K ?_
    refine fz ?_; simp [FinS, nilL, nilV, oneOr, -List.drop_one]
    simp [stepOk, hr, hb, e5, e6, e7, ha, hn, e1, e2, e3, e4, e8, e9, q0, q1]
   by_cases q2 : x.n = 0
   case neg =>
    try simp only [go_sem, qA, qB, qC, qD, qE, qF, qG, qH, q2, e5, e6, e7, ha, hn, e1, e2, e3, e4, e8, e9, q0, q1]
    repeat refine K ?_
    refine fz ?_; simp [FinS, nilL, nilV, oneOr, -List.drop_one]
    simp [stepOk, hr, hb, e5, e6, e7, ha, hn, e1, e2, e3, e4, e8, e9, q0, q1, q2]
   try simp only [go_sem, qA, qB, qC, qD, qE, qF, qG, qH, e5, e6, e7, ha, hn, e1, e2, e3, e4, e8, e9, q0, q1, q2]
   repeat refine K ?_
   refine fz ?_; simp [FinS, nilL, nilV, oneOr, -List.drop_one]
   simp [stepOk, hr, hb, hz, e5, e6, e7, ha, hn, e1, e2, e3, e4, e8, e9, q0, q1, q2]
  by_cases e10 : x.op = 10
  ·skip
   by_cases hp : x.n < pl
   all_goals
    try simp only [go_sem, qA, qB, qC, qD, qE, qF, qG, qH, hp, e5, e6, e7, ha, hn, e1, e2, e3, e4, e8, e9, e10]
    repeat refine K ?_
    repeat' (first
     | (simp only [go_sem, qA, qB, qC, qD, qE, qF, qG, qH, hp, hn])
     | (refine qA2 (fun hc => ?_) (fun hc => ?_) <;> ((try simp only [Bool.not_eq_true', Bool.not_eq_false', ne_eq, Bool.not_eq_true, Bool.not_eq_false] at hc) <;> (try simp only [hc])))
     | (refine qCt (fun hc => ?_) (fun hc => ?_) <;> ((try simp only [Bool.not_eq_true', Bool.not_eq_false', ne_eq, Bool.not_eq_true, Bool.not_eq_false] at hc) <;> (try simp only [hc])))
     | (refine qCe (fun hc => ?_) (fun hc => ?_) <;> ((try simp only [Bool.not_eq_true', Bool.not_eq_false', ne_eq, Bool.not_eq_true, Bool.not_eq_false] at hc) <;> (try simp only [hc])))
     | (refine ⟨by first | omega | (simp; done), ?_⟩)
     | fail)
    all_goals (refine fz ?_; simp [FinS, nilL, nilV, oneOr, -List.drop_one])
    all_goals (simp [stepOk, hr, hb, hp, e5, e6, e7, ha, hn, e1, e2, e3, e4, e8, e9, e10, *]; try omega)
  by_cases e11 : x.op = 11
  ·skip
   by_cases hp : x.n < pl
   all_goals
    try simp only [go_sem, qA, qB, qC, qD, qE, qF, qG, qH, hp, e5, e6, e7, ha, hn, e1, e2, e3, e4, e8, e9, e10, e11]
    repeat refine K ?_
    repeat' (first
     | (simp only [go_sem, qA, qB, qC, qD, qE, qF, qG, qH, hp, hn])
     | (refine qA2 (fun hc => ?_) (fun hc => ?_) <;> ((try simp only [Bool.not_eq_true', Bool.not_eq_false', ne_eq, Bool.not_eq_true, Bool.not_eq_false] at hc) <;> (try simp only [hc])))
     | (refine qCt (fun hc => ?_) (fun hc => ?_) <;> ((try simp only [Bool.not_eq_true', Bool.not_eq_false', ne_eq, Bool.not_eq_true, Bool.not_eq_false] at hc) <;> (try simp only [hc])))
     | (refine qCe (fun hc => ?_) (fun hc => ?_) <;> ((try simp only [Bool.not_eq_true', Bool.not_eq_false', ne_eq, Bool.not_eq_true, Bool.not_eq_false] at hc) <;> (try simp only [hc])))
     | (refine ⟨by first | omega | (simp; done), ?_⟩)
     | fail)
    all_goals (refine fz ?_; simp [FinS, nilL, nilV, oneOr, -List.drop_one])
    all_goals (simp [stepOk, hr, hb, hp, e5, e6, e7, ha, hn, e1, e2, e3, e4, e8, e9, e10, e11, *]; try omega)
  by_cases e12 : x.op = 12
  ·skip
   try simp only [go_sem, qA, qB, qC, qD, qE, qF, qG, qH, e5, e6, e7, ha, hn, e1, e2, e3, e4, e8, e9, e10, e11, e12]
   repeat refine K ?_
   refine fz ?_; simp [FinS, nilL, nilV, oneOr, -List.drop_one]
   simp [stepOk, hr, hb, e5, e6, e7, ha, hn, e1, e2, e3, e4, e8, e9, e10, e11, e12]
  by_cases e13 : x.op = 13
  ·skip
   try simp only [go_sem, qA, qB, qC, qD, qE, qF, qG, qH, e5, e6, e7, ha, hn, e1, e2, e3, e4, e8, e9, e10, e11, e12, e13]
   repeat refine K ?_
   refine fz ?_; simp [FinS, nilL, nilV, oneOr, -List.drop_one]
   simp [stepOk, hr, hb, e5, e6, e7, ha, hn, e1, e2, e3, e4, e8, e9, e10, e11, e12, e13]
  try simp only [go_sem, qA, qB, qC, qD, qE, qF, qG, qH, e5, e6, e7, ha, hn, e1, e2, e3, e4, e8, e9, e10, e11, e12, e13]
  repeat refine K ?_
  refine fz ?_; simp [FinS, nilL, nilV, oneOr, -List.drop_one]
  simp [stepOk, e5, e6, e7, ha, hn, e1, e2, e3, e4, e8, e9, e10, e11, e12, e13]
end Go.Sep
