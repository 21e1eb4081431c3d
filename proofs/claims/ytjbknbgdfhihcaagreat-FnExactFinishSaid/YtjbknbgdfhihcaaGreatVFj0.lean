/- Contracts of functions. -/
import Derived.Test.YtjbknbgdfhihcaaGreatVFi0
namespace Go.Sep
open Go.Proofs
set_option linter.unusedSimpArgs false
set_option linter.unusedVariables false
set_option maxRecDepth 100000
open Nat renaming reduceAdd → qA, reduceMul → qB, reduceEqDiff → qC, reduceBEq → qD
open Int renaming reduceToNat → qE, reduceEq → qF, reduceLT → qG, reduceLE → qH
def m402 : MFn := ⟨124, [.t 6], .seq (xr [xb 3 0, xb 4 1, xF 6]) (.seq (xr [xo 7 (.mv (xi 1048576))]) (.seq (xr [xm 19 2 3, xv 20 7, xc2 21 27 (.t 19) (.t 20), xv 7 21]) (.seq (.seq (xr [xv 22 7, xo 23 (.bin .lss (.t 22) (xi 0))]) (.cond 23 (.seq (xr [xT 6]) (.ret)) (.skip))) (.seq (xr [xm 24 4 4, xv 25 7, xc2 26 172 (.t 24) (.t 25), xv 7 26]) (.seq (.seq (xr [xv 27 7, xo 28 (.bin .lss (.t 27) (xi 0))]) (.cond 28 (.seq (xr [xT 6]) (.ret)) (.skip))) (.seq (.dreg (.take 0 (xm 30 2 3) (.take 2 (xm 32 4 4) (.take 4 (xv 34 2) (.both 1 [0] (xc1 31 28 (.t 30)) (.both 3 [1, 2, 0] (xc1 33 173 (.t 32)) (.both 5 [1, 3, 4, 0, 2] (xc3 35 403 (.t 31) (.t 33) (.t 34)) (.take 6 (xv 29 35) (.take 7 (xo 36 (.ext (.t 29) 0)) (.take 8 (xo 37 (.ext (.t 29) 1)) (.only 9 [] (xo 8 (.alloc [.nil, .nil, .nil, .nil])) (.only 10 [0, 2, 4, 6, 7] ⟨none, .store 4 (.t 8) (.t 36), none⟩ (.only 11 [0, 2, 4, 6, 7, 8] (xv 9 37) (.done))))))) 9 [] (xo 8 (.alloc [.nil, .nil, .nil, .nil])) (.only 5 [1, 3, 4, 0, 2] (xc3 35 403 (.t 31) (.t 33) (.t 34)) (.only 6 [5, 1, 3, 4, 0, 2] (xv 29 35) (.take 7 (xo 36 (.ext (.t 29) 0)) (.take 8 (xo 37 (.ext (.t 29) 1)) (.only 10 [0, 2, 4, 7] ⟨none, .store 4 (.t 8) (.t 36), none⟩ (.only 11 [0, 2, 4, 7, 8] (xv 9 37) (.done)))))))) 9 [] (xo 8 (.alloc [.nil, .nil, .nil, .nil])) (.only 3 [1, 2, 0] (xc1 33 173 (.t 32)) (.only 5 [1, 3, 4, 0, 2] (xc3 35 403 (.t 31) (.t 33) (.t 34)) (.only 6 [5, 1, 3, 4, 0, 2] (xv 29 35) (.take 7 (xo 36 (.ext (.t 29) 0)) (.take 8 (xo 37 (.ext (.t 29) 1)) (.only 10 [0, 2, 4, 7] ⟨none, .store 4 (.t 8) (.t 36), none⟩ (.only 11 [0, 2, 4, 7, 8] (xv 9 37) (.done))))))))) 9 [] (xo 8 (.alloc [.nil, .nil, .nil, .nil])) (.only 1 [0] (xc1 31 28 (.t 30)) (.only 3 [1, 2, 0] (xc1 33 173 (.t 32)) (.only 5 [1, 3, 4, 0, 2] (xc3 35 403 (.t 31) (.t 33) (.t 34)) (.only 6 [5, 1, 3, 4, 0, 2] (xv 29 35) (.take 7 (xo 36 (.ext (.t 29) 0)) (.take 8 (xo 37 (.ext (.t 29) 1)) (.only 10 [0, 2, 4, 7] ⟨none, .store 4 (.t 8) (.t 36), none⟩ (.only 11 [0, 2, 4, 7, 8] (xv 9 37) (.done)))))))))))))) (.seq (xr [xm 38 2 3, xc1 39 28 (.t 38), xo 10 (.alloc [.nil, .nil]), ⟨none, .store 2 (.t 10) (.t 39), none⟩]) (.seq (xr [xm 40 4 4, xc1 41 173 (.t 40), xo 11 (.alloc [.nil, .nil, .nil, .nil]), ⟨none, .store 4 (.t 11) (.t 41), none⟩]) (.seq (xr [xm 43 2 10, xm 44 4 11, xv 45 2, xc3 46 404 (.t 43) (.t 44) (.t 45), xv 42 46, xo 47 (.ext (.t 42) 0), xo 48 (.ext (.t 42) 1), xo 12 (.alloc [.nil, .nil, .nil, .nil]), ⟨none, .store 4 (.t 12) (.t 47), none⟩, xv 13 48]) (.seq (.seq (xr [xm 49 4 12, xm 50 4 8, xc2 51 176 (.t 49) (.t 50), xo 52 (.un .«not» (.t 51)), xv 53 52, xg 54 (.mv (.t 13)) 53 false, xg 55 (.mv (.t 9)) 53 false, xg 56 (.bin .neq (.t 54) (.t 55)) 53 false, xo 57 (.pick (.t 53) (.c (.bool true)) (.t 56))]) (.cond 57 (.seq (xr [xF 6]) (.ret)) (.skip))) (.seq (.seq (.dreg (.take 0 (xm 58 2 10) (.only 1 [] (xm 59 2 3) (.only 2 [] (xc1 60 28 (.t 59)) (.only 3 [0] (xc2 61 30 (.t 58) (.t 60)) (.only 4 [3, 0] (xo 62 (.un .«not» (.t 61))) (.done))))))) (.cond 62 (.seq (xr [xF 6]) (.ret)) (.skip))) (.seq (.seq (.dreg (.take 0 (xm 63 4 11) (.only 1 [] (xm 64 4 4) (.only 2 [] (xc1 65 173 (.t 64)) (.only 3 [0] (xc2 66 176 (.t 63) (.t 65)) (.only 4 [3, 0] (xo 67 (.un .«not» (.t 66))) (.done))))))) (.cond 67 (.seq (xr [xF 6]) (.ret)) (.skip))) (.seq (xr [xo 14 (.mv (xi 1))]) (.seq (xr [xm 68 2 10, xv 69 14, xo 70 (.call 31 [true, false] [.t 68, .t 69]), xv 14 70]) (.seq (xr [xm 71 4 11, xv 72 14, xo 73 (.call 351 [true, false] [.t 71, .t 72]), xv 14 73]) (.seq (.seq (xr [xv 74 14, xo 75 (.bin .lss (.t 74) (xi 0)), xv 76 75, xg 77 (.load 4 true (.t 12)) 76 false, xg 78 (.load 4 true (.t 8)) 76 false, xg 79 (.call 176 [false, false] [.t 77, .t 78]) 76 false, xg 80 (.un .«not» (.t 79)) 76 false, xo 81 (.pick (.t 76) (.c (.bool true)) (.t 80)), xv 82 81, xg 83 (.mv (.t 13)) 82 false, xg 84 (.mv (.t 9)) 82 false, xg 85 (.bin .neq (.t 83) (.t 84)) 82 false, xo 86 (.pick (.t 82) (.c (.bool true)) (.t 85))]) (.cond 86 (.seq (xr [xF 6]) (.ret)) (.skip))) (.seq (xr [xo 15 (.mv (xi 1))]) (.seq (xr [xm 87 4 12, xv 88 15, xo 89 (.call 351 [true, false] [.t 87, .t 88]), xv 15 89]) (.seq (xr [xo 16 (.mv (xi 1))]) (.seq (xr [xm 90 4 12, xv 91 16, xc2 92 352 (.t 90) (.t 91), xv 16 92]) (.seq (.seq (xr [xv 93 16, xo 94 (.bin .lss (.t 93) (xi 0))]) (.cond 94 (.seq (xr [xF 6]) (.ret)) (.skip))) (.seq (.seq (xr [xv 95 16, xv 96 15, xo 97 (.bin .neq (.t 95) (.t 96))]) (.cond 97 (.seq (xr [xF 6]) (.ret)) (.skip))) (.seq (.dreg (.take 0 (xm 99 2 3) (.take 2 (xm 101 4 4) (.take 4 (xv 103 2) (.both 1 [0] (xc1 100 28 (.t 99)) (.both 3 [1, 2, 0] (xc1 102 173 (.t 101)) (.both 5 [1, 3, 4, 0, 2] (xc3 104 404 (.t 100) (.t 102) (.t 103)) (.take 6 (xv 98 104) (.take 7 (xo 105 (.ext (.t 98) 0)) (.take 8 (xo 106 (.ext (.t 98) 1)) (.only 9 [] (xo 17 (.alloc [.nil, .nil, .nil, .nil])) (.only 10 [0, 2, 4, 6, 7] ⟨none, .store 4 (.t 17) (.t 105), none⟩ (.only 11 [0, 2, 4, 6, 7, 8] (xv 18 106) (.done))))))) 9 [] (xo 17 (.alloc [.nil, .nil, .nil, .nil])) (.only 5 [1, 3, 4, 0, 2] (xc3 104 404 (.t 100) (.t 102) (.t 103)) (.only 6 [5, 1, 3, 4, 0, 2] (xv 98 104) (.take 7 (xo 105 (.ext (.t 98) 0)) (.take 8 (xo 106 (.ext (.t 98) 1)) (.only 10 [0, 2, 4, 7] ⟨none, .store 4 (.t 17) (.t 105), none⟩ (.only 11 [0, 2, 4, 7, 8] (xv 18 106) (.done)))))))) 9 [] (xo 17 (.alloc [.nil, .nil, .nil, .nil])) (.only 3 [1, 2, 0] (xc1 102 173 (.t 101)) (.only 5 [1, 3, 4, 0, 2] (xc3 104 404 (.t 100) (.t 102) (.t 103)) (.only 6 [5, 1, 3, 4, 0, 2] (xv 98 104) (.take 7 (xo 105 (.ext (.t 98) 0)) (.take 8 (xo 106 (.ext (.t 98) 1)) (.only 10 [0, 2, 4, 7] ⟨none, .store 4 (.t 17) (.t 105), none⟩ (.only 11 [0, 2, 4, 7, 8] (xv 18 106) (.done))))))))) 9 [] (xo 17 (.alloc [.nil, .nil, .nil, .nil])) (.only 1 [0] (xc1 100 28 (.t 99)) (.only 3 [1, 2, 0] (xc1 102 173 (.t 101)) (.only 5 [1, 3, 4, 0, 2] (xc3 104 404 (.t 100) (.t 102) (.t 103)) (.only 6 [5, 1, 3, 4, 0, 2] (xv 98 104) (.take 7 (xo 105 (.ext (.t 98) 0)) (.take 8 (xo 106 (.ext (.t 98) 1)) (.only 10 [0, 2, 4, 7] ⟨none, .store 4 (.t 17) (.t 105), none⟩ (.only 11 [0, 2, 4, 7, 8] (xv 18 106) (.done)))))))))))))) (.seq (.seq (xr [xm 107 4 17, xm 108 4 8, xc2 109 176 (.t 107) (.t 108), xo 110 (.un .«not» (.t 109)), xv 111 110, xg 112 (.mv (.t 18)) 111 false, xg 113 (.mv (.t 9)) 111 false, xg 114 (.bin .neq (.t 112) (.t 113)) 111 false, xo 115 (.pick (.t 111) (.c (.bool true)) (.t 114))]) (.cond 115 (.seq (xr [xF 6]) (.ret)) (.skip))) (.seq (xr [xo 16 (.mv (xi 1))]) (.seq (xr [xm 116 4 12, xv 117 16, xc2 118 352 (.t 116) (.t 117), xv 16 118]) (.seq (.seq (xr [xv 119 16, xo 120 (.bin .lss (.t 119) (xi 0))]) (.cond 120 (.seq (xr [xF 6]) (.ret)) (.skip))) (.seq (.seq (xr [xv 121 16, xv 122 15, xo 123 (.bin .neq (.t 121) (.t 122))]) (.cond 123 (.seq (xr [xF 6]) (.ret)) (.skip))) (.seq (xr [xT 6]) (.ret))))))))))))))))))))))))))))))⟩
set_option maxHeartbeats 8000000 in
theorem exactFinish_ok (p : Prog) (m : Machine) (rounds : Int) (h1 : p.caps.length < 2 ^ 63 ∧ p.bods.length < 2 ^ 63 ∧ ∀ b ∈ p.bods, b.length < 2 ^ 63) (hm0 : LongM m) : CallOk Tryz.prog num 402 [.agg (progC .bw p), .agg (machineC .bw m), .int .i64 rounds] [] (.bool true) := by
 refine EN m402 Tryz.func8 ?_
 unfold m402
 simp only [go_sem, qA, qB, qC, qD, qE, qF, qG, qH]
 repeat refine K ?_
 refine CA [] (szProg_ok p 1048576 h1.1 h1.2.1 h1.2.2 (by omega) (by omega)) ?_
 try simp only [go_sem, qA, qB, qC, qD, qE, qF, qG, qH]
 repeat refine K ?_
 rw [szProg_eq p _ (by omega)]
 have l1 := szL_le (k := wProg p) (n := 1048576) (by omega)
 refine qA1 (fun hc => ?_) (fun hc => ?_)
 ·simp only [go_sem, qA, qB, qC, qD, qE, qF, qG, qH]
  repeat refine K ?_
  refine fz ?_; simp [FinS, nilL, nilV, oneOr, -List.drop_one]
 simp only [decide_eq_false_iff_not] at hc
 have hp := prgSz_of (p := p) (n := 1048576) (by have := szL_ge hc (by omega); omega)
 generalize szL (wProg p) 1048576 = n1 at *
 simp only [go_sem, qA, qB, qC, qD, qE, qF, qG, qH]
 repeat refine K ?_
 refine CA [] (szMachine_ok m n1 hm0 (by omega) (by omega)) ?_
 try simp only [go_sem, qA, qB, qC, qD, qE, qF, qG, qH]
 repeat refine K ?_
 refine qA1 (fun hc2 => ?_) (fun hc2 => ?_)
 ·simp only [go_sem, qA, qB, qC, qD, qE, qF, qG, qH]
  repeat refine K ?_
  refine fz ?_; simp [FinS, nilL, nilV, oneOr, -List.drop_one]
 simp only [decide_eq_false_iff_not] at hc2
 have hz : zMachine m ≤ 1048576 := by have := szL_ge hc2 (by omega); omega
 have hm := smallM_of hz (by omega)
 clear hc hc2 h1 l1 hm0
 obtain ⟨p1, p2, p3, p4⟩ := hp
 have q1 : ∀ b ∈ p.bods, 40 * b.length ≤ 2 ^ 47 := fun b hb => by have := p3 b hb; omega
 have q2 : ∀ b ∈ p.bods, b.length ≤ 2 ^ 47 := fun b hb => by have := p3 b hb; omega
 have hpp : SmallP p := ⟨by omega, by omega, fun b hb => by have := p3 b hb; omega⟩
 have tp := toProg_ok p (by omega) (by omega) q1
 have tm := toMachine_ok m hm
 have em := eqMachine_ok m m hm
 have ep := eqProg_ok p p (by omega) (by omega) q2
 have wm := wMachine_z m
 have cs := specFinish_ok p m rounds hpp hm
 have ci := implFinish_ok p m rounds hpp hm
 have wz := finish_z p m rounds
 generalize finish p m rounds = w at *
 have hw := smallM_of (m := w.1) (n := 4000000) wz (by omega)
 have ww := wMachine_z w.1
 have ew := eqMachine_ok w.1 w.1 hw
 have d1 : decide ((1 : Int) + wMachine w.1 < 0) = false := by simp; omega
 have d2 : decide ((1 : Int) + p.caps.length + 5 * tot p.bods + wMachine m < 0) = false := by simp; omega
 have hh := heldMachine_ok w.1 1 hw (by omega) (by omega)
 have hh0 := hh
 unfold machineMarks at hh
 simp only [go_sem, qA, qB, qC, qD, qE, qF, qG, qH]
 repeat refine K ?_
 apply hold1
 ·intro key
  repeat' (first
   | simp only [go_sem, qA, qB, qC, qD, qE, qF, qG, qH]
   | (refine DA [] tp ?_)
   | (refine DA [] tm ?_)
   | (refine DA [] cs ?_)
   | (refine K ?_)
   | (refine And.intro ?_ ?_)
   | fail)
  all_goals refine calls_mk (t := [(2, .int .i64 rounds), (3, .ptr 10 0 0), (4, .ptr 11 0 0), (8, .ptr 12 0 0), (9, .int .i64 w.2), (38, .agg (progC .bw p))]) (h := [(10, 2, [progC .bw p]), (11, 4, [machineC .bw m]), (12, 4, [machineC .own w.1])]) (nx := 13) ?_ key.h
  all_goals (
   repeat' ((first | refine F1 12 0 13 ?_ | refine F1 12 0 14 ?_ | refine F1 12 0 15 ?_ | refine F1 12 0 16 ?_ | refine F1 12 0 17 ?_ | refine F1 12 0 18 ?_ | refine F1 12 0 19 ?_ | refine F1 12 0 20 ?_ | refine F1 12 0 21 ?_ | refine F1 12 0 22 ?_ | refine F1 12 0 23 ?_ | refine F1 12 1 13 ?_ | refine F1 12 1 14 ?_ | refine F1 12 1 15 ?_ | refine F1 12 1 16 ?_ | refine F1 12 1 17 ?_ | refine F1 12 1 18 ?_ | refine F1 12 1 19 ?_ | refine F1 12 1 20 ?_ | refine F1 12 1 21 ?_ | refine F1 12 1 22 ?_ | refine F1 12 1 23 ?_ | refine F1 12 2 13 ?_ | refine F1 12 2 14 ?_ | refine F1 12 2 15 ?_ | refine F1 12 2 16 ?_ | refine F1 12 2 17 ?_ | refine F1 12 2 18 ?_ | refine F1 12 2 19 ?_ | refine F1 12 2 20 ?_ | refine F1 12 2 21 ?_ | refine F1 12 2 22 ?_ | refine F1 12 2 23 ?_ | refine F1 12 3 13 ?_ | refine F1 12 3 14 ?_ | refine F1 12 3 15 ?_ | refine F1 12 3 16 ?_ | refine F1 12 3 17 ?_ | refine F1 12 3 18 ?_ | refine F1 12 3 19 ?_ | refine F1 12 3 20 ?_ | refine F1 12 3 21 ?_ | refine F1 12 3 22 ?_ | refine F1 12 3 23 ?_ | refine F1 14 0 12 ?_ | refine F1 14 0 13 ?_ | refine F1 14 0 15 ?_ | refine F1 14 0 16 ?_ | refine F1 14 0 17 ?_ | refine F1 14 0 18 ?_ | refine F1 14 0 19 ?_ | refine F1 14 0 20 ?_ | refine F1 14 0 21 ?_ | refine F1 14 0 22 ?_ | refine F1 14 0 23 ?_ | refine F1 14 1 12 ?_ | refine F1 14 1 13 ?_ | refine F1 14 1 15 ?_ | refine F1 14 1 16 ?_ | refine F1 14 1 17 ?_ | refine F1 14 1 18 ?_ | refine F1 14 1 19 ?_ | refine F1 14 1 20 ?_ | refine F1 14 1 21 ?_ | refine F1 14 1 22 ?_ | refine F1 14 1 23 ?_ | refine F1 14 2 12 ?_ | refine F1 14 2 13 ?_ | refine F1 14 2 15 ?_ | refine F1 14 2 16 ?_ | refine F1 14 2 17 ?_ | refine F1 14 2 18 ?_ | refine F1 14 2 19 ?_ | refine F1 14 2 20 ?_ | refine F1 14 2 21 ?_ | refine F1 14 2 22 ?_ | refine F1 14 2 23 ?_ | refine F1 14 3 12 ?_ | refine F1 14 3 13 ?_ | refine F1 14 3 15 ?_ | refine F1 14 3 16 ?_ | refine F1 14 3 17 ?_ | refine F1 14 3 18 ?_ | refine F1 14 3 19 ?_ | refine F1 14 3 20 ?_ | refine F1 14 3 21 ?_ | refine F1 14 3 22 ?_ | refine F1 14 3 23 ?_ | refine F1 18 0 12 ?_ | refine F1 18 0 13 ?_ | refine F1 18 0 14 ?_ | refine F1 18 0 15 ?_ | refine F1 18 0 16 ?_ | refine F1 18 0 17 ?_ | refine F1 18 0 19 ?_ | refine F1 18 0 20 ?_ | refine F1 18 0 21 ?_ | refine F1 18 0 22 ?_ | refine F1 18 0 23 ?_ | refine F1 18 1 12 ?_ | refine F1 18 1 13 ?_ | refine F1 18 1 14 ?_ | refine F1 18 1 15 ?_ | refine F1 18 1 16 ?_ | refine F1 18 1 17 ?_ | refine F1 18 1 19 ?_ | refine F1 18 1 20 ?_ | refine F1 18 1 21 ?_ | refine F1 18 1 22 ?_ | refine F1 18 1 23 ?_ | refine F1 18 2 12 ?_ | refine F1 18 2 13 ?_ | refine F1 18 2 14 ?_ | refine F1 18 2 15 ?_ | refine F1 18 2 16 ?_ | refine F1 18 2 17 ?_ | refine F1 18 2 19 ?_ | refine F1 18 2 20 ?_ | refine F1 18 2 21 ?_ | refine F1 18 2 22 ?_ | refine F1 18 2 23 ?_ | refine F1 18 3 12 ?_ | refine F1 18 3 13 ?_ | refine F1 18 3 14 ?_ | refine F1 18 3 15 ?_ | refine F1 18 3 16 ?_ | refine F1 18 3 17 ?_ | refine F1 18 3 19 ?_ | refine F1 18 3 20 ?_ | refine F1 18 3 21 ?_ | refine F1 18 3 22 ?_ | refine F1 18 3 23 ?_ | refine F1 22 0 12 ?_ | refine F1 22 0 13 ?_ | refine F1 22 0 14 ?_ | refine F1 22 0 15 ?_ | refine F1 22 0 16 ?_ | refine F1 22 0 17 ?_ | refine F1 22 0 18 ?_ | refine F1 22 0 19 ?_ | refine F1 22 0 20 ?_ | refine F1 22 0 21 ?_ | refine F1 22 0 23 ?_ | refine F1 22 1 12 ?_ | refine F1 22 1 13 ?_ | refine F1 22 1 14 ?_ | refine F1 22 1 15 ?_ | refine F1 22 1 16 ?_ | refine F1 22 1 17 ?_ | refine F1 22 1 18 ?_ | refine F1 22 1 19 ?_ | refine F1 22 1 20 ?_ | refine F1 22 1 21 ?_ | refine F1 22 1 23 ?_ | refine F1 22 2 12 ?_ | refine F1 22 2 13 ?_ | refine F1 22 2 14 ?_ | refine F1 22 2 15 ?_ | refine F1 22 2 16 ?_ | refine F1 22 2 17 ?_ | refine F1 22 2 18 ?_ | refine F1 22 2 19 ?_ | refine F1 22 2 20 ?_ | refine F1 22 2 21 ?_ | refine F1 22 2 23 ?_ | refine F1 22 3 12 ?_ | refine F1 22 3 13 ?_ | refine F1 22 3 14 ?_ | refine F1 22 3 15 ?_ | refine F1 22 3 16 ?_ | refine F1 22 3 17 ?_ | refine F1 22 3 18 ?_ | refine F1 22 3 19 ?_ | refine F1 22 3 20 ?_ | refine F1 22 3 21 ?_ | refine F1 22 3 23 ?_ | fail); simp only [fS, fS2, fS2, qA, qC])
   first
    | (refine Sub.shape [] (fun n => if n = 12 then 12 else n) (by omega) ?_ ?_ ?_ ?_ <;> (simp [qA3]; done))
    | (refine Sub.shape [] (fun n => if n = 12 then 14 else n) (by omega) ?_ ?_ ?_ ?_ <;> (simp [qA3]; done))
    | (refine Sub.shape [] (fun n => if n = 12 then 18 else n) (by omega) ?_ ?_ ?_ ?_ <;> (simp [qA3]; done))
    | (refine Sub.shape [] (fun n => if n = 12 then 22 else n) (by omega) ?_ ?_ ?_ ?_ <;> (simp [qA3]; done)))
 refine CA [] (tp) ?_
 try simp only [go_sem, qA, qB, qC, qD, qE, qF, qG, qH]
 repeat refine K ?_
 try simp only [go_sem, qA, qB, qC, qD, qE, qF, qG, qH]
 repeat refine K ?_
 refine CA [] (tm) ?_
 try simp only [go_sem, qA, qB, qC, qD, qE, qF, qG, qH]
 repeat refine K ?_
 try simp only [go_sem, qA, qB, qC, qD, qE, qF, qG, qH]
 repeat refine K ?_
 refine CA [] (ci) ?_
 try simp only [go_sem, qA, qB, qC, qD, qE, qF, qG, qH]
 repeat refine K ?_
 try simp only [go_sem, qA, qB, qC, qD, qE, qF, qG, qH]
 repeat refine K ?_
 refine CA [] (ew) ?_
 try simp only [go_sem, qA, qB, qC, qD, qE, qF, qG, qH]
 repeat refine K ?_
 try simp only [go_sem, qA, qB, qC, qD, qE, qF, qG, qH]
 repeat refine K ?_
 refine DA [] (tp) ?_
 try simp only [go_sem, qA, qB, qC, qD, qE, qF, qG, qH]
 repeat refine K ?_
 refine DA [] (ep) ?_
 try simp only [go_sem, qA, qB, qC, qD, qE, qF, qG, qH]
 repeat refine K ?_
 try simp only [go_sem, qA, qB, qC, qD, qE, qF, qG, qH]
 repeat refine K ?_
 refine DA [] (tm) ?_
 try simp only [go_sem, qA, qB, qC, qD, qE, qF, qG, qH]
 repeat refine K ?_
 refine DA [] (em) ?_
 try simp only [go_sem, qA, qB, qC, qD, qE, qF, qG, qH]
 repeat refine K ?_
 try simp only [go_sem, qA, qB, qC, qD, qE, qF, qG, qH]
 repeat refine K ?_
 refine CA [(0, 13), (1, 14)] (markProg_ok p 1 (by omega) (by omega) (by omega)) ?_
 try simp only [go_sem, qA, qB, qC, qD, qE, qF, qG, qH]
 repeat refine K ?_
 try simp only [go_sem, qA, qB, qC, qD, qE, qF, qG, qH]
 repeat refine K ?_
 refine CA [(0, 16), (1, 17), (2, 18), (3, 19)] (markMachine_ok m (1 + p.caps.length + 5 * tot p.bods) hm (by omega) (by omega)) ?_
 try simp only [go_sem, qA, qB, qC, qD, qE, qF, qG, qH]
 repeat refine K ?_
 try simp only [go_sem, qA, qB, qC, qD, qE, qF, qG, qH, d2]
 repeat refine K ?_
 refine CA [] (ew) ?_
 try simp only [go_sem, qA, qB, qC, qD, qE, qF, qG, qH]
 repeat refine K ?_
 try simp only [go_sem, qA, qB, qC, qD, qE, qF, qG, qH]
 repeat refine K ?_
 refine CA [(0, 21), (1, 22), (2, 23), (3, 24)] (markMachine_ok w.1 1 hw (by omega) (by omega)) ?_
 try simp only [go_sem, qA, qB, qC, qD, qE, qF, qG, qH]
 repeat refine K ?_
 try simp only [go_sem, qA, qB, qC, qD, qE, qF, qG, qH]
 repeat refine K ?_
 refine CA [] (hh) ?_
 try simp only [go_sem, qA, qB, qC, qD, qE, qF, qG, qH]
 repeat refine K ?_
 try simp only [go_sem, qA, qB, qC, qD, qE, qF, qG, qH, d1]
 repeat refine K ?_
 apply hold1
 ·intro key
  repeat' (first
   | simp only [go_sem, qA, qB, qC, qD, qE, qF, qG, qH]
   | (refine DA [] tp ?_)
   | (refine DA [] tm ?_)
   | (refine DA [] ci ?_)
   | (refine K ?_)
   | (refine And.intro ?_ ?_)
   | fail)
  all_goals refine calls_mk (t := [(12, .ptr 25 0 0), (15, .int .i64 (1 + wMachine w.1)), (9, .int .i64 w.2), (18, .int .i64 w.2), (107, .agg [.ns 30 0 w.1.codes.length, .ns 31 0 w.1.cores.length, .ns 32 0 w.1.mem.cells.length, .ns 33 0 w.1.tr.length]), (108, .agg [.ns 26 0 w.1.codes.length, .ns 27 0 w.1.cores.length, .ns 28 0 w.1.mem.cells.length, .ns 29 0 w.1.tr.length])]) (h := [(25, 4, [machineC .own (machineMarks 1 w.1)]), (26, 1, codes .own w.1.codes), (27, 4, cores .own w.1.cores), (28, 1, cels .own w.1.mem.cells), (29, 2, notes w.1.tr), (30, 1, codes .own w.1.codes), (31, 4, cores .own w.1.cores), (32, 1, cels .own w.1.mem.cells), (33, 2, notes w.1.tr)]) (nx := 34) ?_ key.h
  all_goals (
   refine F1 25 0 21 ?_
   simp only [fS, fS2, fS2, qA, qC, qAf]
   refine F1 25 1 22 ?_
   simp only [fS, fS2, fS2, qA, qC, qAf]
   refine F1 25 2 23 ?_
   simp only [fS, fS2, fS2, qA, qC, qAf]
   refine F1 25 3 24 ?_
   simp only [fS, fS2, fS2, qA, qC, qAf]
   simp only [machineMarks]
   first
    | (refine Sub.shape [] (fun n => if n = 30 then 42 else if n = 31 then 43 else if n = 32 then 44 else if n = 33 then 45 else n) (by omega) ?_ ?_ ?_ ?_ <;> (simp [qA3]; done))
    | (refine Sub.shape [] (fun n => if n = 30 then 43 else if n = 31 then 44 else if n = 32 then 45 else if n = 33 then 46 else n) (by omega) ?_ ?_ ?_ ?_ <;> (simp [qA3]; done)))
 refine CA [] (ew) ?_
 try simp only [go_sem, qA, qB, qC, qD, qE, qF, qG, qH]
 repeat refine K ?_
 try simp only [go_sem, qA, qB, qC, qD, qE, qF, qG, qH]
 repeat refine K ?_
 refine CA [] (hh0) ?_
 try simp only [go_sem, qA, qB, qC, qD, qE, qF, qG, qH]
 repeat refine K ?_
 try simp only [go_sem, qA, qB, qC, qD, qE, qF, qG, qH, d1]
 repeat refine K ?_
 refine fz ?_; simp [FinS, nilL, nilV, oneOr, -List.drop_one]
end Go.Sep
