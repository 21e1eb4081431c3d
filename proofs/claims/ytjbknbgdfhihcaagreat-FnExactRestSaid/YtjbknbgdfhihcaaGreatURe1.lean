/- Contracts of functions. -/
import Derived.Test.YtjbknbgdfhihcaaGreatUP0
import Derived.Test.YtjbknbgdfhihcaaGreatURt1
namespace Go.Sep
open Go.Proofs
set_option linter.unusedSimpArgs false
set_option linter.unusedVariables false
set_option maxRecDepth 100000
open Nat renaming reduceAdd → qA, reduceMul → qB, reduceEqDiff → qC, reduceBEq → qD
open Int renaming reduceToNat → qE, reduceEq → qF, reduceLT → qG, reduceLE → qH
def m399 : MFn := ⟨92, [.t 4], .seq (xr [xb 2 0, xb 3 1, xF 4]) (.seq (xr [xo 5 (.mv (xi 1048576))]) (.seq (xr [xm 14 2 2, xv 15 5, xc2 16 27 (.t 14) (.t 15), xv 5 16]) (.seq (.seq (xr [xv 17 5, xo 18 (.bin .lss (.t 17) (xi 0))]) (.cond 18 (.seq (xr [xT 4]) (.ret)) (.skip))) (.seq (xr [xm 19 4 3, xv 20 5, xc2 21 172 (.t 19) (.t 20), xv 5 21]) (.seq (.seq (xr [xv 22 5, xo 23 (.bin .lss (.t 22) (xi 0))]) (.cond 23 (.seq (xr [xT 4]) (.ret)) (.skip))) (.seq (.dreg (.take 0 (xm 24 2 2) (.take 2 (xm 26 4 3) (.both 1 [0] (xc1 25 28 (.t 24)) (.both 3 [1, 2, 0] (xc1 27 173 (.t 26)) (.both 4 [1, 3, 0, 2] (xc2 28 400 (.t 25) (.t 27)) (.only 5 [] (xo 6 (.alloc [.nil, .nil, .nil, .nil])) (.only 6 [0, 2] ⟨none, .store 4 (.t 6) (.t 28), none⟩ (.done))) 5 [] (xo 6 (.alloc [.nil, .nil, .nil, .nil])) (.only 4 [1, 3, 0, 2] (xc2 28 400 (.t 25) (.t 27)) (.only 6 [0, 2] ⟨none, .store 4 (.t 6) (.t 28), none⟩ (.done)))) 5 [] (xo 6 (.alloc [.nil, .nil, .nil, .nil])) (.only 3 [1, 2, 0] (xc1 27 173 (.t 26)) (.only 4 [1, 3, 0, 2] (xc2 28 400 (.t 25) (.t 27)) (.only 6 [0, 2] ⟨none, .store 4 (.t 6) (.t 28), none⟩ (.done))))) 5 [] (xo 6 (.alloc [.nil, .nil, .nil, .nil])) (.only 1 [0] (xc1 25 28 (.t 24)) (.only 3 [1, 2, 0] (xc1 27 173 (.t 26)) (.only 4 [1, 3, 0, 2] (xc2 28 400 (.t 25) (.t 27)) (.only 6 [0, 2] ⟨none, .store 4 (.t 6) (.t 28), none⟩ (.done))))))))) (.seq (xr [xm 29 2 2, xc1 30 28 (.t 29), xo 7 (.alloc [.nil, .nil]), ⟨none, .store 2 (.t 7) (.t 30), none⟩]) (.seq (xr [xm 31 4 3, xc1 32 173 (.t 31), xo 8 (.alloc [.nil, .nil, .nil, .nil]), ⟨none, .store 4 (.t 8) (.t 32), none⟩]) (.seq (xr [xm 33 2 7, xm 34 4 8, xc2 35 401 (.t 33) (.t 34), xo 9 (.alloc [.nil, .nil, .nil, .nil]), ⟨none, .store 4 (.t 9) (.t 35), none⟩]) (.seq (.seq (xr [xm 36 4 9, xm 37 4 6, xc2 38 176 (.t 36) (.t 37), xo 39 (.un .«not» (.t 38))]) (.cond 39 (.seq (xr [xF 4]) (.ret)) (.skip))) (.seq (.seq (.dreg (.take 0 (xm 40 2 7) (.only 1 [] (xm 41 2 2) (.only 2 [] (xc1 42 28 (.t 41)) (.only 3 [0] (xc2 43 30 (.t 40) (.t 42)) (.only 4 [3, 0] (xo 44 (.un .«not» (.t 43))) (.done))))))) (.cond 44 (.seq (xr [xF 4]) (.ret)) (.skip))) (.seq (.seq (.dreg (.take 0 (xm 45 4 8) (.only 1 [] (xm 46 4 3) (.only 2 [] (xc1 47 173 (.t 46)) (.only 3 [0] (xc2 48 176 (.t 45) (.t 47)) (.only 4 [3, 0] (xo 49 (.un .«not» (.t 48))) (.done))))))) (.cond 49 (.seq (xr [xF 4]) (.ret)) (.skip))) (.seq (xr [xo 10 (.mv (xi 1))]) (.seq (xr [xm 50 2 7, xv 51 10, xo 52 (.call 31 [true, false] [.t 50, .t 51]), xv 10 52]) (.seq (xr [xm 53 4 8, xv 54 10, xo 55 (.call 351 [true, false] [.t 53, .t 54]), xv 10 55]) (.seq (.seq (xr [xv 56 10, xo 57 (.bin .lss (.t 56) (xi 0)), xv 58 57, xg 59 (.load 4 true (.t 9)) 58 false, xg 60 (.load 4 true (.t 6)) 58 false, xg 61 (.call 176 [false, false] [.t 59, .t 60]) 58 false, xg 62 (.un .«not» (.t 61)) 58 false, xo 63 (.pick (.t 58) (.c (.bool true)) (.t 62))]) (.cond 63 (.seq (xr [xF 4]) (.ret)) (.skip))) (.seq (xr [xo 11 (.mv (xi 1))]) (.seq (xr [xm 64 4 9, xv 65 11, xo 66 (.call 351 [true, false] [.t 64, .t 65]), xv 11 66]) (.seq (xr [xo 12 (.mv (xi 1))]) (.seq (xr [xm 67 4 9, xv 68 12, xc2 69 352 (.t 67) (.t 68), xv 12 69]) (.seq (.seq (xr [xv 70 12, xo 71 (.bin .lss (.t 70) (xi 0))]) (.cond 71 (.seq (xr [xF 4]) (.ret)) (.skip))) (.seq (.seq (xr [xv 72 12, xv 73 11, xo 74 (.bin .neq (.t 72) (.t 73))]) (.cond 74 (.seq (xr [xF 4]) (.ret)) (.skip))) (.seq (.dreg (.take 0 (xm 75 2 2) (.take 2 (xm 77 4 3) (.both 1 [0] (xc1 76 28 (.t 75)) (.both 3 [1, 2, 0] (xc1 78 173 (.t 77)) (.both 4 [1, 3, 0, 2] (xc2 79 401 (.t 76) (.t 78)) (.only 5 [] (xo 13 (.alloc [.nil, .nil, .nil, .nil])) (.only 6 [0, 2] ⟨none, .store 4 (.t 13) (.t 79), none⟩ (.done))) 5 [] (xo 13 (.alloc [.nil, .nil, .nil, .nil])) (.only 4 [1, 3, 0, 2] (xc2 79 401 (.t 76) (.t 78)) (.only 6 [0, 2] ⟨none, .store 4 (.t 13) (.t 79), none⟩ (.done)))) 5 [] (xo 13 (.alloc [.nil, .nil, .nil, .nil])) (.only 3 [1, 2, 0] (xc1 78 173 (.t 77)) (.only 4 [1, 3, 0, 2] (xc2 79 401 (.t 76) (.t 78)) (.only 6 [0, 2] ⟨none, .store 4 (.t 13) (.t 79), none⟩ (.done))))) 5 [] (xo 13 (.alloc [.nil, .nil, .nil, .nil])) (.only 1 [0] (xc1 76 28 (.t 75)) (.only 3 [1, 2, 0] (xc1 78 173 (.t 77)) (.only 4 [1, 3, 0, 2] (xc2 79 401 (.t 76) (.t 78)) (.only 6 [0, 2] ⟨none, .store 4 (.t 13) (.t 79), none⟩ (.done))))))))) (.seq (.seq (xr [xm 80 4 13, xm 81 4 6, xc2 82 176 (.t 80) (.t 81), xo 83 (.un .«not» (.t 82))]) (.cond 83 (.seq (xr [xF 4]) (.ret)) (.skip))) (.seq (xr [xo 12 (.mv (xi 1))]) (.seq (xr [xm 84 4 9, xv 85 12, xc2 86 352 (.t 84) (.t 85), xv 12 86]) (.seq (.seq (xr [xv 87 12, xo 88 (.bin .lss (.t 87) (xi 0))]) (.cond 88 (.seq (xr [xF 4]) (.ret)) (.skip))) (.seq (.seq (xr [xv 89 12, xv 90 11, xo 91 (.bin .neq (.t 89) (.t 90))]) (.cond 91 (.seq (xr [xF 4]) (.ret)) (.skip))) (.seq (xr [xT 4]) (.ret))))))))))))))))))))))))))))))⟩
set_option maxHeartbeats 8000000 in
theorem exactRest_ok (p : Prog) (m : Machine) (h1 : p.caps.length < 2 ^ 63 ∧ p.bods.length < 2 ^ 63 ∧ ∀ b ∈ p.bods, b.length < 2 ^ 63) (hm0 : LongM m) : CallOk Tryz.prog num 399 [.agg (progC .bw p), .agg (machineC .bw m)] [] (.bool true) := by
 refine EN m399 Tryz.func7 ?_
 unfold m399
 simp only [go_sem, qA, qB, qC, qD, qE, qF, qG, qH]
 repeat refine K ?_
 refine CA [] (szProg_ok p 1048576 h1.1 h1.2.1 h1.2.2 (by omega) (by omega)) ?_
 try simp only [go_sem, qA, qB, qC, qD, qE, qF, qG, qH]
 repeat refine K ?_
 rw [szProg_eq p _ (by omega)]
 have l1 := szL_le (k := wProg p) (n := 1048576) (by omega)
 refine qA1 (fun hc => ?_) (fun hc => ?_)
 ·simp only [go_sem, qA, qB, qC, qD, qE, qF, qG, qH]
  repeat refine K ?_
  refine fz ?_; simp [FinS, nilL, nilV, oneOr, -List.drop_one]
 simp only [decide_eq_false_iff_not] at hc
 have hp := prgSz_of (p := p) (n := 1048576) (by have := szL_ge hc (by omega); omega)
 generalize szL (wProg p) 1048576 = n1 at *
 simp only [go_sem, qA, qB, qC, qD, qE, qF, qG, qH]
 repeat refine K ?_
 refine CA [] (szMachine_ok m n1 hm0 (by omega) (by omega)) ?_
 try simp only [go_sem, qA, qB, qC, qD, qE, qF, qG, qH]
 repeat refine K ?_
 refine qA1 (fun hc2 => ?_) (fun hc2 => ?_)
 ·simp only [go_sem, qA, qB, qC, qD, qE, qF, qG, qH]
  repeat refine K ?_
  refine fz ?_; simp [FinS, nilL, nilV, oneOr, -List.drop_one]
 simp only [decide_eq_false_iff_not] at hc2
 have hz : zMachine m ≤ 1048576 := by have := szL_ge hc2 (by omega); omega
 have hm := smallM_of hz (by omega)
 clear hc hc2 h1 l1 hm0
 obtain ⟨p1, p2, p3, p4⟩ := hp
 have q1 : ∀ b ∈ p.bods, 40 * b.length ≤ 2 ^ 47 := fun b hb => by have := p3 b hb; omega
 have q2 : ∀ b ∈ p.bods, b.length ≤ 2 ^ 47 := fun b hb => by have := p3 b hb; omega
 have hpp : SmallP p := ⟨by omega, by omega, fun b hb => by have := p3 b hb; omega⟩
 have tp := toProg_ok p (by omega) (by omega) q1
 have tm := toMachine_ok m hm
 have em := eqMachine_ok m m hm
 have ep := eqProg_ok p p (by omega) (by omega) q2
 have wm := wMachine_z m
 have cs := specRestTop_ok p m hpp hm
 have ci := implRestTop_ok p m hpp hm
 have wz := restR_z p m
 generalize restR p m = w at *
 have hw := smallM_of (m := w) (n := 4000000) wz (by omega)
 have ww := wMachine_z w
 have ew := eqMachine_ok w w hw
 have d1 : decide ((1 : Int) + wMachine w < 0) = false := by simp; omega
 have d2 : decide ((1 : Int) + p.caps.length + 5 * tot p.bods + wMachine m < 0) = false := by simp; omega
 have hh := heldMachine_ok w 1 hw (by omega) (by omega)
 have hh0 := hh
 unfold machineMarks at hh
 simp only [go_sem, qA, qB, qC, qD, qE, qF, qG, qH]
 repeat refine K ?_
 apply hold1
 ·intro key
  repeat' (first
   | simp only [go_sem, qA, qB, qC, qD, qE, qF, qG, qH]
   | (refine DA [] tp ?_)
   | (refine DA [] tm ?_)
   | (refine DA [] cs ?_)
   | (refine K ?_)
   | (refine And.intro ?_ ?_)
   | fail)
  all_goals refine qC5 (t := [(2, .ptr 10 0 0), (3, .ptr 11 0 0), (6, .ptr 12 0 0), (29, .agg (progC .bw p))]) (h := [(10, 2, [progC .bw p]), (11, 4, [machineC .bw m]), (12, 4, [machineC .own w])]) (nx := 13) ?_ key.h
  all_goals (
   repeat' ((first | refine F1 12 0 13 ?_ | refine F1 12 0 14 ?_ | refine F1 12 0 15 ?_ | refine F1 12 0 16 ?_ | refine F1 12 0 17 ?_ | refine F1 12 0 18 ?_ | refine F1 12 0 19 ?_ | refine F1 12 0 20 ?_ | refine F1 12 0 21 ?_ | refine F1 12 0 22 ?_ | refine F1 12 0 23 ?_ | refine F1 12 1 13 ?_ | refine F1 12 1 14 ?_ | refine F1 12 1 15 ?_ | refine F1 12 1 16 ?_ | refine F1 12 1 17 ?_ | refine F1 12 1 18 ?_ | refine F1 12 1 19 ?_ | refine F1 12 1 20 ?_ | refine F1 12 1 21 ?_ | refine F1 12 1 22 ?_ | refine F1 12 1 23 ?_ | refine F1 12 2 13 ?_ | refine F1 12 2 14 ?_ | refine F1 12 2 15 ?_ | refine F1 12 2 16 ?_ | refine F1 12 2 17 ?_ | refine F1 12 2 18 ?_ | refine F1 12 2 19 ?_ | refine F1 12 2 20 ?_ | refine F1 12 2 21 ?_ | refine F1 12 2 22 ?_ | refine F1 12 2 23 ?_ | refine F1 12 3 13 ?_ | refine F1 12 3 14 ?_ | refine F1 12 3 15 ?_ | refine F1 12 3 16 ?_ | refine F1 12 3 17 ?_ | refine F1 12 3 18 ?_ | refine F1 12 3 19 ?_ | refine F1 12 3 20 ?_ | refine F1 12 3 21 ?_ | refine F1 12 3 22 ?_ | refine F1 12 3 23 ?_ | refine F1 14 0 12 ?_ | refine F1 14 0 13 ?_ | refine F1 14 0 15 ?_ | refine F1 14 0 16 ?_ | refine F1 14 0 17 ?_ | refine F1 14 0 18 ?_ | refine F1 14 0 19 ?_ | refine F1 14 0 20 ?_ | refine F1 14 0 21 ?_ | refine F1 14 0 22 ?_ | refine F1 14 0 23 ?_ | refine F1 14 1 12 ?_ | refine F1 14 1 13 ?_ | refine F1 14 1 15 ?_ | refine F1 14 1 16 ?_ | refine F1 14 1 17 ?_ | refine F1 14 1 18 ?_ | refine F1 14 1 19 ?_ | refine F1 14 1 20 ?_ | refine F1 14 1 21 ?_ | refine F1 14 1 22 ?_ | refine F1 14 1 23 ?_ | refine F1 14 2 12 ?_ | refine F1 14 2 13 ?_ | refine F1 14 2 15 ?_ | refine F1 14 2 16 ?_ | refine F1 14 2 17 ?_ | refine F1 14 2 18 ?_ | refine F1 14 2 19 ?_ | refine F1 14 2 20 ?_ | refine F1 14 2 21 ?_ | refine F1 14 2 22 ?_ | refine F1 14 2 23 ?_ | refine F1 14 3 12 ?_ | refine F1 14 3 13 ?_ | refine F1 14 3 15 ?_ | refine F1 14 3 16 ?_ | refine F1 14 3 17 ?_ | refine F1 14 3 18 ?_ | refine F1 14 3 19 ?_ | refine F1 14 3 20 ?_ | refine F1 14 3 21 ?_ | refine F1 14 3 22 ?_ | refine F1 14 3 23 ?_ | refine F1 18 0 12 ?_ | refine F1 18 0 13 ?_ | refine F1 18 0 14 ?_ | refine F1 18 0 15 ?_ | refine F1 18 0 16 ?_ | refine F1 18 0 17 ?_ | refine F1 18 0 19 ?_ | refine F1 18 0 20 ?_ | refine F1 18 0 21 ?_ | refine F1 18 0 22 ?_ | refine F1 18 0 23 ?_ | refine F1 18 1 12 ?_ | refine F1 18 1 13 ?_ | refine F1 18 1 14 ?_ | refine F1 18 1 15 ?_ | refine F1 18 1 16 ?_ | refine F1 18 1 17 ?_ | refine F1 18 1 19 ?_ | refine F1 18 1 20 ?_ | refine F1 18 1 21 ?_ | refine F1 18 1 22 ?_ | refine F1 18 1 23 ?_ | refine F1 18 2 12 ?_ | refine F1 18 2 13 ?_ | refine F1 18 2 14 ?_ | refine F1 18 2 15 ?_ | refine F1 18 2 16 ?_ | refine F1 18 2 17 ?_ | refine F1 18 2 19 ?_ | refine F1 18 2 20 ?_ | refine F1 18 2 21 ?_ | refine F1 18 2 22 ?_ | refine F1 18 2 23 ?_ | refine F1 18 3 12 ?_ | refine F1 18 3 13 ?_ | refine F1 18 3 14 ?_ | refine F1 18 3 15 ?_ | refine F1 18 3 16 ?_ | refine F1 18 3 17 ?_ | refine F1 18 3 19 ?_ | refine F1 18 3 20 ?_ | refine F1 18 3 21 ?_ | refine F1 18 3 22 ?_ | refine F1 18 3 23 ?_ | refine F1 22 0 12 ?_ | refine F1 22 0 13 ?_ | refine F1 22 0 14 ?_ | refine F1 22 0 15 ?_ | refine F1 22 0 16 ?_ | refine F1 22 0 17 ?_ | refine F1 22 0 18 ?_ | refine F1 22 0 19 ?_ | refine F1 22 0 20 ?_ | refine F1 22 0 21 ?_ | refine F1 22 0 23 ?_ | refine F1 22 1 12 ?_ | refine F1 22 1 13 ?_ | refine F1 22 1 14 ?_ | refine F1 22 1 15 ?_ | refine F1 22 1 16 ?_ | refine F1 22 1 17 ?_ | refine F1 22 1 18 ?_ | refine F1 22 1 19 ?_ | refine F1 22 1 20 ?_ | refine F1 22 1 21 ?_ | refine F1 22 1 23 ?_ | refine F1 22 2 12 ?_ | refine F1 22 2 13 ?_ | refine F1 22 2 14 ?_ | refine F1 22 2 15 ?_ | refine F1 22 2 16 ?_ | refine F1 22 2 17 ?_ | refine F1 22 2 18 ?_ | refine F1 22 2 19 ?_ | refine F1 22 2 20 ?_ | refine F1 22 2 21 ?_ | refine F1 22 2 23 ?_ | refine F1 22 3 12 ?_ | refine F1 22 3 13 ?_ | refine F1 22 3 14 ?_ | refine F1 22 3 15 ?_ | refine F1 22 3 16 ?_ | refine F1 22 3 17 ?_ | refine F1 22 3 18 ?_ | refine F1 22 3 19 ?_ | refine F1 22 3 20 ?_ | refine F1 22 3 21 ?_ | refine F1 22 3 23 ?_ | fail); simp only [fS, fS2, fS2, qA, qC])
   first
    | (refine Sub.shape [] (fun n => if n = 12 then 12 else n) (by omega) ?_ ?_ ?_ ?_ <;> (simp [qA2]; done))
    | (refine Sub.shape [] (fun n => if n = 12 then 14 else n) (by omega) ?_ ?_ ?_ ?_ <;> (simp [qA2]; done))
    | (refine Sub.shape [] (fun n => if n = 12 then 18 else n) (by omega) ?_ ?_ ?_ ?_ <;> (simp [qA2]; done))
    | (refine Sub.shape [] (fun n => if n = 12 then 22 else n) (by omega) ?_ ?_ ?_ ?_ <;> (simp [qA2]; done)))
 refine CA [] (tp) ?_
 try simp only [go_sem, qA, qB, qC, qD, qE, qF, qG, qH]
 repeat refine K ?_
 try simp only [go_sem, qA, qB, qC, qD, qE, qF, qG, qH]
 repeat refine K ?_
 refine CA [] (tm) ?_
 try simp only [go_sem, qA, qB, qC, qD, qE, qF, qG, qH]
 repeat refine K ?_
 try simp only [go_sem, qA, qB, qC, qD, qE, qF, qG, qH]
 repeat refine K ?_
 refine CA [] (ci) ?_
 try simp only [go_sem, qA, qB, qC, qD, qE, qF, qG, qH]
 repeat refine K ?_
 try simp only [go_sem, qA, qB, qC, qD, qE, qF, qG, qH]
 repeat refine K ?_
 refine CA [] (ew) ?_
 try simp only [go_sem, qA, qB, qC, qD, qE, qF, qG, qH]
 repeat refine K ?_
 try simp only [go_sem, qA, qB, qC, qD, qE, qF, qG, qH]
 repeat refine K ?_
 refine DA [] (tp) ?_
 try simp only [go_sem, qA, qB, qC, qD, qE, qF, qG, qH]
 repeat refine K ?_
 refine DA [] (ep) ?_
 try simp only [go_sem, qA, qB, qC, qD, qE, qF, qG, qH]
 repeat refine K ?_
 try simp only [go_sem, qA, qB, qC, qD, qE, qF, qG, qH]
 repeat refine K ?_
 refine DA [] (tm) ?_
 try simp only [go_sem, qA, qB, qC, qD, qE, qF, qG, qH]
 repeat refine K ?_
 refine DA [] (em) ?_
 try simp only [go_sem, qA, qB, qC, qD, qE, qF, qG, qH]
 repeat refine K ?_
 try simp only [go_sem, qA, qB, qC, qD, qE, qF, qG, qH]
 repeat refine K ?_
 refine CA [(0, 13), (1, 14)] (markProg_ok p 1 (by omega) (by omega) (by omega)) ?_
 try simp only [go_sem, qA, qB, qC, qD, qE, qF, qG, qH]
 repeat refine K ?_
 try simp only [go_sem, qA, qB, qC, qD, qE, qF, qG, qH]
 repeat refine K ?_
 refine CA [(0, 16), (1, 17), (2, 18), (3, 19)] (markMachine_ok m (1 + p.caps.length + 5 * tot p.bods) hm (by omega) (by omega)) ?_
 try simp only [go_sem, qA, qB, qC, qD, qE, qF, qG, qH]
 repeat refine K ?_
 try simp only [go_sem, qA, qB, qC, qD, qE, qF, qG, qH, d2]
 repeat refine K ?_
 refine CA [] (ew) ?_
 try simp only [go_sem, qA, qB, qC, qD, qE, qF, qG, qH]
 repeat refine K ?_
 try simp only [go_sem, qA, qB, qC, qD, qE, qF, qG, qH]
 repeat refine K ?_
 refine CA [(0, 21), (1, 22), (2, 23), (3, 24)] (markMachine_ok w 1 hw (by omega) (by omega)) ?_
 try simp only [go_sem, qA, qB, qC, qD, qE, qF, qG, qH]
 repeat refine K ?_
 try simp only [go_sem, qA, qB, qC, qD, qE, qF, qG, qH]
 repeat refine K ?_
 refine CA [] (hh) ?_
 try simp only [go_sem, qA, qB, qC, qD, qE, qF, qG, qH]
 repeat refine K ?_
 try simp only [go_sem, qA, qB, qC, qD, qE, qF, qG, qH, d1]
 repeat refine K ?_
 apply hold1
 ·intro key
  repeat' (first
   | simp only [go_sem, qA, qB, qC, qD, qE, qF, qG, qH]
   | (refine DA [] tp ?_)
   | (refine DA [] tm ?_)
   | (refine DA [] ci ?_)
   | (refine K ?_)
   | (refine And.intro ?_ ?_)
   | fail)
  all_goals refine qC5 (t := [(9, .ptr 25 0 0), (11, .int .i64 (1 + wMachine w)), (80, .agg [.ns 30 0 w.codes.length, .ns 31 0 w.cores.length, .ns 32 0 w.mem.cells.length, .ns 33 0 w.tr.length]), (81, .agg [.ns 26 0 w.codes.length, .ns 27 0 w.cores.length, .ns 28 0 w.mem.cells.length, .ns 29 0 w.tr.length])]) (h := [(25, 4, [machineC .own (machineMarks 1 w)]), (26, 1, codes .own w.codes), (27, 4, cores .own w.cores), (28, 1, cels .own w.mem.cells), (29, 2, notes w.tr), (30, 1, codes .own w.codes), (31, 4, cores .own w.cores), (32, 1, cels .own w.mem.cells), (33, 2, notes w.tr)]) (nx := 34) ?_ key.h
  all_goals (
   refine F1 25 0 21 ?_
   simp only [fS, fS2, fS2, qA, qC, qAh]
   refine F1 25 1 22 ?_
   simp only [fS, fS2, fS2, qA, qC, qAh]
   refine F1 25 2 23 ?_
   simp only [fS, fS2, fS2, qA, qC, qAh]
   refine F1 25 3 24 ?_
   simp only [fS, fS2, fS2, qA, qC, qAh]
   simp only [machineMarks]
   first
    | (refine Sub.shape [] (fun n => if n = 30 then 42 else if n = 31 then 43 else if n = 32 then 44 else if n = 33 then 45 else n) (by omega) ?_ ?_ ?_ ?_ <;> (simp [qA2]; done))
    | (refine Sub.shape [] (fun n => if n = 30 then 43 else if n = 31 then 44 else if n = 32 then 45 else if n = 33 then 46 else n) (by omega) ?_ ?_ ?_ ?_ <;> (simp [qA2]; done)))
 refine CA [] (ew) ?_
 try simp only [go_sem, qA, qB, qC, qD, qE, qF, qG, qH]
 repeat refine K ?_
 try simp only [go_sem, qA, qB, qC, qD, qE, qF, qG, qH]
 repeat refine K ?_
 refine CA [] (hh0) ?_
 try simp only [go_sem, qA, qB, qC, qD, qE, qF, qG, qH]
 repeat refine K ?_
 try simp only [go_sem, qA, qB, qC, qD, qE, qF, qG, qH, d1]
 repeat refine K ?_
 refine fz ?_; simp [FinS, nilL, nilV, oneOr, -List.drop_one]
end Go.Sep
