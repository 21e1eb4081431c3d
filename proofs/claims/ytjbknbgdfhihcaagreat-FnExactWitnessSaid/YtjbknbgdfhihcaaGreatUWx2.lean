/- Contracts of functions. -/
import Derived.Test.YtjbknbgdfhihcaaGreatUY2
import Derived.Test.YtjbknbgdfhihcaaGreatUWt2
namespace Go.Sep
open Go.Proofs
set_option linter.unusedSimpArgs false
set_option linter.unusedVariables false
set_option maxRecDepth 100000
open Nat renaming reduceAdd → qA, reduceMul → qB, reduceEqDiff → qC, reduceBEq → qD
open Int renaming reduceToNat → qE, reduceEq → qF, reduceLT → qG, reduceLE → qH
def m405 : MFn := ⟨156, [.t 4], .seq (xr [xb 2 0, xF 4]) (.seq (xr [xo 5 (.mv (xi 1048576))]) (.seq (xr [xm 20 2 2, xv 21 5, xc2 22 27 (.t 20) (.t 21), xv 5 22]) (.seq (.seq (xr [xv 23 5, xo 24 (.bin .lss (.t 23) (xi 0))]) (.cond 24 (.seq (xr [xT 4]) (.ret)) (.skip))) (.seq (xr [xv 25 1, xv 26 5, xc2 27 384 (.t 25) (.t 26), xv 5 27]) (.seq (.seq (xr [xv 28 5, xo 29 (.bin .lss (.t 28) (xi 0))]) (.cond 29 (.seq (xr [xT 4]) (.ret)) (.skip))) (.seq (xr [xm 31 2 2, xc1 32 28 (.t 31), xv 33 1, xc1 34 385 (.t 33), xc2 35 406 (.t 32) (.t 34), xv 30 35, xo 36 (.ext (.t 30) 0), xo 37 (.ext (.t 30) 1), xo 38 (.ext (.t 30) 2), xo 7 (.alloc [.nil, .nil, .nil, .nil]), xv 6 36, ⟨none, .store 4 (.t 7) (.t 37), none⟩, xv 8 38]) (.seq (xr [xm 39 2 2, xc1 40 28 (.t 39), xo 9 (.alloc [.nil, .nil]), ⟨none, .store 2 (.t 9) (.t 40), none⟩]) (.seq (xr [xv 41 1, xc1 42 385 (.t 41), xv 10 42]) (.seq (xr [xm 44 2 9, xv 45 10, xc2 46 407 (.t 44) (.t 45), xv 43 46, xo 47 (.ext (.t 43) 0), xo 48 (.ext (.t 43) 1), xo 49 (.ext (.t 43) 2), xo 12 (.alloc [.nil, .nil, .nil, .nil]), xv 11 47, ⟨none, .store 4 (.t 12) (.t 48), none⟩, xv 13 49]) (.seq (.seq (xr [xv 50 11, xv 51 6, xc2 52 8 (.t 50) (.t 51), xo 53 (.un .«not» (.t 52)), xv 54 53, xg 55 (.load 4 true (.t 12)) 54 false, xg 56 (.load 4 true (.t 7)) 54 false, xg 57 (.call 176 [false, false] [.t 55, .t 56]) 54 false, xg 58 (.un .«not» (.t 57)) 54 false, xo 59 (.pick (.t 54) (.c (.bool true)) (.t 58)), xv 60 59, xg 61 (.mv (.t 13)) 60 false, xg 62 (.mv (.t 8)) 60 false, xg 63 (.eqB true (.t 61) (.t 62)) 60 false, xo 64 (.pick (.t 60) (.c (.bool true)) (.t 63))]) (.cond 64 (.seq (xr [xF 4]) (.ret)) (.skip))) (.seq (.seq (.dreg (.take 0 (xm 65 2 9) (.only 1 [] (xm 66 2 2) (.only 2 [] (xc1 67 28 (.t 66)) (.only 3 [0] (xc2 68 30 (.t 65) (.t 67)) (.only 4 [3, 0] (xo 69 (.un .«not» (.t 68))) (.done))))))) (.cond 69 (.seq (xr [xF 4]) (.ret)) (.skip))) (.seq (.seq (xr [xv 70 10, xv 71 1, xc1 72 385 (.t 71), xc2 73 388 (.t 70) (.t 72), xo 74 (.un .«not» (.t 73))]) (.cond 74 (.seq (xr [xF 4]) (.ret)) (.skip))) (.seq (xr [xo 14 (.mv (xi 1))]) (.seq (xr [xm 75 2 9, xv 76 14, xo 77 (.call 31 [true, false] [.t 75, .t 76]), xv 14 77]) (.seq (xr [xv 78 10, xv 79 14, xo 80 (.call 389 [true, false] [.t 78, .t 79]), xv 14 80]) (.seq (.seq (xr [xv 81 14, xo 82 (.bin .lss (.t 81) (xi 0)), xv 83 82, xg 84 (.mv (.t 11)) 83 false, xg 85 (.mv (.t 6)) 83 false, xg 86 (.call 8 [false, false] [.t 84, .t 85]) 83 false, xg 87 (.un .«not» (.t 86)) 83 false, xo 88 (.pick (.t 83) (.c (.bool true)) (.t 87)), xv 89 88, xg 90 (.load 4 true (.t 12)) 89 false, xg 91 (.load 4 true (.t 7)) 89 false, xg 92 (.call 176 [false, false] [.t 90, .t 91]) 89 false, xg 93 (.un .«not» (.t 92)) 89 false, xo 94 (.pick (.t 89) (.c (.bool true)) (.t 93)), xv 95 94, xg 96 (.mv (.t 13)) 95 false, xg 97 (.mv (.t 8)) 95 false, xg 98 (.eqB true (.t 96) (.t 97)) 95 false, xo 99 (.pick (.t 95) (.c (.bool true)) (.t 98))]) (.cond 99 (.seq (xr [xF 4]) (.ret)) (.skip))) (.seq (xr [xo 15 (.mv (xi 1))]) (.seq (xr [xv 100 11, xv 101 15, xo 102 (.call 16 [true, false] [.t 100, .t 101]), xv 15 102]) (.seq (xr [xm 103 4 12, xv 104 15, xo 105 (.call 351 [true, false] [.t 103, .t 104]), xv 15 105]) (.seq (xr [xo 16 (.mv (xi 1))]) (.seq (xr [xv 106 11, xv 107 16, xc2 108 17 (.t 106) (.t 107), xv 16 108]) (.seq (.seq (xr [xv 109 16, xo 110 (.bin .lss (.t 109) (xi 0))]) (.cond 110 (.seq (xr [xF 4]) (.ret)) (.skip))) (.seq (xr [xm 111 4 12, xv 112 16, xc2 113 352 (.t 111) (.t 112), xv 16 113]) (.seq (.seq (xr [xv 114 16, xo 115 (.bin .lss (.t 114) (xi 0))]) (.cond 115 (.seq (xr [xF 4]) (.ret)) (.skip))) (.seq (.seq (xr [xv 116 16, xv 117 15, xo 118 (.bin .neq (.t 116) (.t 117))]) (.cond 118 (.seq (xr [xF 4]) (.ret)) (.skip))) (.seq (xr [xm 120 2 2, xc1 121 28 (.t 120), xv 122 1, xc1 123 385 (.t 122), xc2 124 407 (.t 121) (.t 123), xv 119 124, xo 125 (.ext (.t 119) 0), xo 126 (.ext (.t 119) 1), xo 127 (.ext (.t 119) 2), xo 18 (.alloc [.nil, .nil, .nil, .nil]), xv 17 125, ⟨none, .store 4 (.t 18) (.t 126), none⟩, xv 19 127]) (.seq (.seq (xr [xv 128 17, xv 129 6, xc2 130 8 (.t 128) (.t 129), xo 131 (.un .«not» (.t 130)), xv 132 131, xg 133 (.load 4 true (.t 18)) 132 false, xg 134 (.load 4 true (.t 7)) 132 false, xg 135 (.call 176 [false, false] [.t 133, .t 134]) 132 false, xg 136 (.un .«not» (.t 135)) 132 false, xo 137 (.pick (.t 132) (.c (.bool true)) (.t 136)), xv 138 137, xg 139 (.mv (.t 19)) 138 false, xg 140 (.mv (.t 8)) 138 false, xg 141 (.eqB true (.t 139) (.t 140)) 138 false, xo 142 (.pick (.t 138) (.c (.bool true)) (.t 141))]) (.cond 142 (.seq (xr [xF 4]) (.ret)) (.skip))) (.seq (xr [xo 16 (.mv (xi 1))]) (.seq (xr [xv 143 11, xv 144 16, xc2 145 17 (.t 143) (.t 144), xv 16 145]) (.seq (.seq (xr [xv 146 16, xo 147 (.bin .lss (.t 146) (xi 0))]) (.cond 147 (.seq (xr [xF 4]) (.ret)) (.skip))) (.seq (xr [xm 148 4 12, xv 149 16, xc2 150 352 (.t 148) (.t 149), xv 16 150]) (.seq (.seq (xr [xv 151 16, xo 152 (.bin .lss (.t 151) (xi 0))]) (.cond 152 (.seq (xr [xF 4]) (.ret)) (.skip))) (.seq (.seq (xr [xv 153 16, xv 154 15, xo 155 (.bin .neq (.t 153) (.t 154))]) (.cond 155 (.seq (xr [xF 4]) (.ret)) (.skip))) (.seq (xr [xT 4]) (.ret)))))))))))))))))))))))))))))))))))⟩
set_option maxHeartbeats 8000000 in
theorem exactWitness_ok (p : Prog) (l : List Pick) (h1 : p.caps.length < 2 ^ 63 ∧ p.bods.length < 2 ^ 63 ∧ ∀ b ∈ p.bods, b.length < 2 ^ 63) (hl0 : l.length < 2 ^ 63 ∧ ∀ x ∈ l, pkOk x) : CallOk Tryz.prog num 405 [.agg (progC .bw p), .sl .bw 2 (pcks l)] [] (.bool true) := by
 refine EN m405 Tryz.func9 ?_
 unfold m405
 simp only [go_sem, qA, qB, qC, qD, qE, qF, qG, qH]
 repeat refine K ?_
 refine CA [] (szProg_ok p 1048576 h1.1 h1.2.1 h1.2.2 (by omega) (by omega)) ?_
 try simp only [go_sem, qA, qB, qC, qD, qE, qF, qG, qH]
 repeat refine K ?_
 rw [szProg_eq p _ (by omega)]
 have l1 := szL_le (k := wProg p) (n := 1048576) (by omega)
 refine qA1 (fun hc => ?_) (fun hc => ?_)
 ·simp only [go_sem, qA, qB, qC, qD, qE, qF, qG, qH]
  repeat refine K ?_
  refine fz ?_; simp [FinS, nilL, nilV, oneOr, -List.drop_one]
 simp only [decide_eq_false_iff_not] at hc
 have hp := prgSz_of (p := p) (n := 1048576) (by have := szL_ge hc (by omega); omega)
 generalize szL (wProg p) 1048576 = n2 at *
 simp only [go_sem, qA, qB, qC, qD, qE, qF, qG, qH]
 repeat refine K ?_
 refine CA [] (szPickS_ok l n2 hl0.1 (by omega) (by omega)) ?_
 try simp only [go_sem, qA, qB, qC, qD, qE, qF, qG, qH]
 repeat refine K ?_
 refine qA1 (fun hc3 => ?_) (fun hc3 => ?_)
 ·simp only [go_sem, qA, qB, qC, qD, qE, qF, qG, qH]
  repeat refine K ?_
  refine fz ?_; simp [FinS, nilL, nilV, oneOr, -List.drop_one]
 simp only [decide_eq_false_iff_not] at hc3
 have hl : l.length ≤ 1048576 := by have := szL_ge hc3 (by omega); omega
 clear hc hc3 h1 l1
 obtain ⟨p1, p2, p3, p4⟩ := hp
 have q1 : ∀ b ∈ p.bods, 40 * b.length ≤ 2 ^ 47 := fun b hb => by have := p3 b hb; omega
 have q2 : ∀ b ∈ p.bods, b.length ≤ 2 ^ 47 := fun b hb => by have := p3 b hb; omega
 have hpp : SmallP p := ⟨by omega, by omega, fun b hb => by have := p3 b hb; omega⟩
 have tp := toProg_ok p (by omega) (by omega) q1
 have tk := toPickS_ok l (by omega)
 have cs := specWitness_ok p l hpp (by omega) hl0.2
 have ci := implWitness_ok p l hpp (by omega) hl0.2
 obtain ⟨wl, wz⟩ := witness_z p l
 generalize witness p l = w at *
 have hw := smallM_of (m := w.2.1) (n := 4000000) wz (by omega)
 have ww := wMachine_z w.2.1
 have wp : tots wPick l = 2 * l.length := tots_const 2 l
 have ew := eqMachine_ok w.2.1 w.2.1 hw
 have ei := eqIntS_ok w.1 w.1 (by omega)
 have ep := eqProg_ok p p (by omega) (by omega) q2
 have ek := eqPickS_ok l l (by omega)
 have eb : (w.2.2 == w.2.2) = true := by simp
 have d1 : decide ((1 : Int) + w.1.length < 0) = false := by simp; omega
 have d3 : decide ((1 : Int) + w.1.length + wMachine w.2.1 < 0) = false := by simp; omega
 have d2 : decide ((1 : Int) + p.caps.length + 5 * tot p.bods + tots wPick l < 0) = false := by simp; omega
 have hh := heldMachine_ok w.2.1 (1 + w.1.length) hw (by omega) (by omega)
 unfold machineMarks at hh
 simp only [go_sem, qA, qB, qC, qD, qE, qF, qG, qH]
 repeat refine K ?_
 refine CA [] (tp) ?_
 try simp only [go_sem, qA, qB, qC, qD, qE, qF, qG, qH]
 repeat refine K ?_
 try simp only [go_sem, qA, qB, qC, qD, qE, qF, qG, qH]
 repeat refine K ?_
 refine CA [] (tk) ?_
 try simp only [go_sem, qA, qB, qC, qD, qE, qF, qG, qH]
 repeat refine K ?_
 try simp only [go_sem, qA, qB, qC, qD, qE, qF, qG, qH]
 repeat refine K ?_
 refine CA [] (cs) ?_
 try simp only [go_sem, qA, qB, qC, qD, qE, qF, qG, qH]
 repeat refine K ?_
 try simp only [go_sem, qA, qB, qC, qD, qE, qF, qG, qH]
 repeat refine K ?_
 refine CA [] (tp) ?_
 try simp only [go_sem, qA, qB, qC, qD, qE, qF, qG, qH]
 repeat refine K ?_
 try simp only [go_sem, qA, qB, qC, qD, qE, qF, qG, qH]
 repeat refine K ?_
 refine CA [] (tk) ?_
 try simp only [go_sem, qA, qB, qC, qD, qE, qF, qG, qH]
 repeat refine K ?_
 try simp only [go_sem, qA, qB, qC, qD, qE, qF, qG, qH]
 repeat refine K ?_
 refine CA [] (ci) ?_
 try simp only [go_sem, qA, qB, qC, qD, qE, qF, qG, qH]
 repeat refine K ?_
 try simp only [go_sem, qA, qB, qC, qD, qE, qF, qG, qH]
 repeat refine K ?_
 refine CA [] (ei) ?_
 try simp only [go_sem, qA, qB, qC, qD, qE, qF, qG, qH]
 repeat refine K ?_
 try simp only [go_sem, qA, qB, qC, qD, qE, qF, qG, qH]
 repeat refine K ?_
 refine CA [] (ew) ?_
 try simp only [go_sem, qA, qB, qC, qD, qE, qF, qG, qH]
 repeat refine K ?_
 try simp only [go_sem, qA, qB, qC, qD, qE, qF, qG, qH, eb]
 repeat refine K ?_
 refine DA [] (tp) ?_
 try simp only [go_sem, qA, qB, qC, qD, qE, qF, qG, qH]
 repeat refine K ?_
 refine DA [] (ep) ?_
 try simp only [go_sem, qA, qB, qC, qD, qE, qF, qG, qH]
 repeat refine K ?_
 try simp only [go_sem, qA, qB, qC, qD, qE, qF, qG, qH]
 repeat refine K ?_
 refine CA [] (tk) ?_
 try simp only [go_sem, qA, qB, qC, qD, qE, qF, qG, qH]
 repeat refine K ?_
 refine CA [] (ek) ?_
 try simp only [go_sem, qA, qB, qC, qD, qE, qF, qG, qH]
 repeat refine K ?_
 try simp only [go_sem, qA, qB, qC, qD, qE, qF, qG, qH]
 repeat refine K ?_
 refine CA [(0, 20), (1, 21)] (markProg_ok p 1 (by omega) (by omega) (by omega)) ?_
 try simp only [go_sem, qA, qB, qC, qD, qE, qF, qG, qH]
 repeat refine K ?_
 try simp only [go_sem, qA, qB, qC, qD, qE, qF, qG, qH]
 repeat refine K ?_
 refine CA [(0, 23)] (markPickS_ok l (1 + p.caps.length + 5 * tot p.bods) (by omega) (by omega) (by omega)) ?_
 try simp only [go_sem, qA, qB, qC, qD, qE, qF, qG, qH]
 repeat refine K ?_
 try simp only [go_sem, qA, qB, qC, qD, qE, qF, qG, qH, d2]
 repeat refine K ?_
 refine CA [] (ei) ?_
 try simp only [go_sem, qA, qB, qC, qD, qE, qF, qG, qH]
 repeat refine K ?_
 try simp only [go_sem, qA, qB, qC, qD, qE, qF, qG, qH]
 repeat refine K ?_
 refine CA [] (ew) ?_
 try simp only [go_sem, qA, qB, qC, qD, qE, qF, qG, qH]
 repeat refine K ?_
 try simp only [go_sem, qA, qB, qC, qD, qE, qF, qG, qH, eb]
 repeat refine K ?_
 refine CA [(0, 24)] (markIntS_ok w.1 1 (by omega) (by omega)) ?_
 try simp only [go_sem, qA, qB, qC, qD, qE, qF, qG, qH]
 repeat refine K ?_
 try simp only [go_sem, qA, qB, qC, qD, qE, qF, qG, qH]
 repeat refine K ?_
 refine CA [(0, 25), (1, 26), (2, 27), (3, 28)] (markMachine_ok w.2.1 (1 + w.1.length) hw (by omega) (by omega)) ?_
 try simp only [go_sem, qA, qB, qC, qD, qE, qF, qG, qH]
 repeat refine K ?_
 try simp only [go_sem, qA, qB, qC, qD, qE, qF, qG, qH]
 repeat refine K ?_
 refine CA [] (heldIntS_ok w.1.length 1 (by omega) (by omega)) ?_
 try simp only [go_sem, qA, qB, qC, qD, qE, qF, qG, qH]
 repeat refine K ?_
 try simp only [go_sem, qA, qB, qC, qD, qE, qF, qG, qH, d1]
 repeat refine K ?_
 refine CA [] (hh) ?_
 try simp only [go_sem, qA, qB, qC, qD, qE, qF, qG, qH]
 repeat refine K ?_
 try simp only [go_sem, qA, qB, qC, qD, qE, qF, qG, qH, d3]
 repeat refine K ?_
 refine CA [] (tp) ?_
 try simp only [go_sem, qA, qB, qC, qD, qE, qF, qG, qH]
 repeat refine K ?_
 try simp only [go_sem, qA, qB, qC, qD, qE, qF, qG, qH]
 repeat refine K ?_
 refine CA [] (tk) ?_
 try simp only [go_sem, qA, qB, qC, qD, qE, qF, qG, qH]
 repeat refine K ?_
 try simp only [go_sem, qA, qB, qC, qD, qE, qF, qG, qH]
 repeat refine K ?_
 refine CA [] (ci) ?_
 try simp only [go_sem, qA, qB, qC, qD, qE, qF, qG, qH]
 repeat refine K ?_
 try simp only [go_sem, qA, qB, qC, qD, qE, qF, qG, qH]
 repeat refine K ?_
 refine CA [] (ei) ?_
 try simp only [go_sem, qA, qB, qC, qD, qE, qF, qG, qH]
 repeat refine K ?_
 try simp only [go_sem, qA, qB, qC, qD, qE, qF, qG, qH]
 repeat refine K ?_
 refine CA [] (ew) ?_
 try simp only [go_sem, qA, qB, qC, qD, qE, qF, qG, qH]
 repeat refine K ?_
 try simp only [go_sem, qA, qB, qC, qD, qE, qF, qG, qH, eb]
 repeat refine K ?_
 refine CA [] (heldIntS_ok w.1.length 1 (by omega) (by omega)) ?_
 try simp only [go_sem, qA, qB, qC, qD, qE, qF, qG, qH]
 repeat refine K ?_
 try simp only [go_sem, qA, qB, qC, qD, qE, qF, qG, qH, d1]
 repeat refine K ?_
 refine CA [] (hh) ?_
 try simp only [go_sem, qA, qB, qC, qD, qE, qF, qG, qH]
 repeat refine K ?_
 try simp only [go_sem, qA, qB, qC, qD, qE, qF, qG, qH, d3]
 repeat refine K ?_
 refine fz ?_; simp [FinS, nilL, nilV, oneOr, -List.drop_one]
end Go.Sep
