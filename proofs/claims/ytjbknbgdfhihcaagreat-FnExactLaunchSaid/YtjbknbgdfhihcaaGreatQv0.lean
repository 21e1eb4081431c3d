/- Contracts of functions. -/
import Derived.Test.YtjbknbgdfhihcaaGreatFns
import Derived.Test.YtjbknbgdfhihcaaGreatQa0
import Derived.Test.YtjbknbgdfhihcaaGreatQt0
namespace Go.Sep
open Go.Proofs
set_option linter.unusedSimpArgs false
set_option linter.unusedVariables false
set_option maxRecDepth 100000
open Nat renaming reduceAdd → qA, reduceMul → qB, reduceEqDiff → qC, reduceBEq → qD
open Int renaming reduceToNat → qE, reduceEq → qF, reduceLT → qG, reduceLE → qH
open List renaming getD_eq_getElem?_getD → gD

-- S2
def m268 : MFn := ⟨65, [.t 4], .seq (xr [xo 2 (.box (.t 0)), xo 4 (.mv (.c (.bool false)))]) (.seq (xr [xo 5 (.mv (xi 0))]) (.seq (.seq (xr [xo 6 (.fad 0 (.t 2)), xo 7 (.load 1 false (.t 6)), xo 8 (.call 59 [false, false, false] [.t 7, xi 5, xi 7])]) (.cond 8 (xr [xo 5 (.mv (.c (.int .i64 (-1))))]) (.skip))) (.seq (.seq (.dreg (.only 0 [] (xo 9 (.fad 0 (.t 2))) (.only 1 [] (xo 10 (.load 1 false (.t 9))) (.only 2 [] (xo 11 (.call 59 [false, false, false] [.t 10, xi 1, xi 13])) (.only 3 [] (xo 12 (.un .«not» (.t 11))) (.only 4 [] (xv 13 12) (.take 5 (xg 14 (.load 5 true (.t 2)) 13 false) (.only 6 [] (xg 15 (.load 5 true (.t 2)) 13 false) (.only 7 [] (xg 16 (.call 310 [false] [.t 15]) 13 false) (.only 8 [5] (xg 17 (.eqS true [true, true, true, true, true] (.t 14) (.t 16)) 13 false) (.only 9 [8, 5] (xo 18 (.pick (.t 13) (.c (.bool true)) (.t 17))) (.only 10 [9, 8, 5] (xv 19 18) (.only 11 [10, 9, 8, 5] (xg 20 (.fad 1 (.t 2)) 19 false) (.only 12 [10, 9, 8, 5] (xg 21 (.load 1 false (.t 20)) 19 false) (.only 13 [10, 9, 8, 5] (xg 22 (.call 59 [false, false, false] [.t 21, xi 0, xi 7]) 19 false) (.only 14 [10, 9, 8, 5] (xg 23 (.un .«not» (.t 22)) 19 false) (.only 15 [10, 9, 8, 5] (xo 24 (.pick (.t 19) (.c (.bool true)) (.t 23))) (.only 16 [13, 10, 9, 8, 5] (xv 25 24) (.take 17 (xg 26 (.fad 2 (.t 2)) 25 false) (.take 18 (xg 27 (.load 1 false (.t 26)) 25 false) (.only 19 [16, 13, 10, 9, 8, 5] (xg 28 (.mv (.t 5)) 25 false) (.only 20 [16, 18, 13, 17, 10, 9, 8, 5] (xg 29 (.call 59 [false, false, false] [.t 27, .t 28, xi 7]) 25 false) (.only 21 [16, 20, 13, 18, 10, 17, 9, 8, 5] (xg 30 (.un .«not» (.t 29)) 25 false) (.only 22 [16, 21, 13, 20, 10, 18, 9, 17, 8, 5] (xo 31 (.pick (.t 25) (.c (.bool true)) (.t 30))) (.only 23 [20, 16, 18, 13, 17, 10, 9, 8, 5] (xv 32 31) (.only 24 [23, 20, 16, 18, 13, 17, 10, 9, 8, 5] (xg 33 (.fad 3 (.t 2)) 32 false) (.only 25 [23, 20, 16, 18, 13, 17, 10, 9, 8, 5] (xg 34 (.load 1 false (.t 33)) 32 false) (.only 26 [23, 20, 16, 18, 13, 17, 10, 9, 8, 5] (xg 35 (.call 59 [false, false, false] [.t 34, xi 0, xi 7]) 32 false) (.only 27 [23, 20, 16, 18, 13, 17, 10, 9, 8, 5] (xg 36 (.un .«not» (.t 35)) 32 false) (.only 28 [23, 20, 16, 18, 13, 17, 10, 9, 8, 5] (xo 37 (.pick (.t 32) (.c (.bool true)) (.t 36))) (.done))))))))))))))))))))))))))))))) (.cond 37 (.seq (xr [xo 4 (.mv (.c (.bool false)))]) (.ret)) (.skip))) (.seq (.seq (xr [xo 38 (.fad 0 (.t 2)), xo 39 (.load 1 false (.t 38))]) (.blk 0 (.seq (xr [xo 41 (.bin .eql (.t 39) (xi 1)), xv 40 41]) (.cond 40 (.seq (xr [xo 42 (.fad 4 (.t 2)), xo 43 (.load 1 false (.t 42)), xo 44 (.call 59 [false, false, false] [.t 43, .c (.int .i64 (-1000000000)), xi 1000000000]), xv 4 44]) (.ret)) (.seq (.seq (xr [xo 46 (.bin .eql (.t 39) (xi 5)), xv 45 46]) (.cond 45 (.skip) (.seq (xr [xo 47 (.bin .eql (.t 39) (xi 6)), xv 45 47]) (.cond 45 (.skip) (.seq (xr [xo 48 (.bin .eql (.t 39) (xi 7)), xv 45 48]) (.cond 45 (.skip) (xr [xo 49 (.bin .eql (.t 39) (xi 8)), xv 45 49]))))))) (.cond 45 (.seq (xr [xo 50 (.fad 4 (.t 2)), xo 51 (.load 1 false (.t 50)), xo 52 (.call 311 [false] [.t 51]), xv 4 52]) (.ret)) (.seq (.seq (xr [xo 54 (.bin .eql (.t 39) (xi 10)), xv 53 54]) (.cond 53 (.skip) (xr [xo 55 (.bin .eql (.t 39) (xi 11)), xv 53 55]))) (.cond 53 (.seq (xr [xo 56 (.fad 4 (.t 2)), xo 57 (.load 1 false (.t 56)), xo 58 (.bin .geq (.t 57) (xi 0)), xv 59 58, xg 60 (.fad 4 (.t 2)) 59 true, xg 61 (.load 1 false (.t 60)) 59 true, xg 62 (.mv (.t 1)) 59 true, xg 63 (.bin .lss (.t 61) (.t 62)) 59 true, xo 64 (.pick (.t 59) (.t 63) (.c (.bool false))), xv 4 64]) (.ret)) (.skip))))))))) (.seq (xr [xo 4 (.mv (.c (.bool true)))]) (.ret))))))⟩
theorem c268 : chkC Tryz.prog num Tryz.f199.ntmps m268.body ((Tryz.f199.body).getD .skip) = true := by kernel_rfl
def m301 : MFn := ⟨5, [.t 2], .seq (xr [xo 2 (.mv (.c (.bool false)))]) (.seq (xr [xv 3 0, xo 4 (.call 64 [false, false, false] [.t 3, xi 0, xi 7]), xv 2 4]) (.ret))⟩
theorem c301 : chkC Tryz.prog num Tryz.f233.ntmps m301.body ((Tryz.f233.body).getD .skip) = true := by kernel_rfl
def m310 : MFn := ⟨83, [.cell 2 5 true], .seq (xr [xo 1 (.box (.t 0)), xo 2 (.alloc [xz, xz, xz, xz, xz])]) (.seq (xr [xo 4 (.fad 0 (.t 1)), xo 5 (.load 1 false (.t 4)), xo 6 (.build [xz, xz, xz, xz, xz] [(0, 1, .t 5)]), xo 3 (.alloc [xz, xz, xz, xz, xz]), ⟨none, .store 5 (.t 3) (.t 6), none⟩]) (.seq (.seq (xr [xo 7 (.fad 0 (.t 1)), xo 8 (.load 1 false (.t 7))]) (.blk 0 (.seq (xr [xo 10 (.bin .eql (.t 8) (xi 1)), xv 9 10]) (.cond 9 (.dreg (.take 0 (xo 11 (.fad 1 (.t 1))) (.take 1 (xo 12 (.load 1 false (.t 11))) (.take 2 (xo 13 (.fad 4 (.t 1))) (.take 3 (xo 14 (.load 1 false (.t 13))) (.only 4 [0, 1] (xo 15 (.fad 1 (.t 3))) (.only 5 [0, 1] ⟨none, .store 1 (.t 15) (.t 12), none⟩ (.only 6 [0, 1, 2, 3] (xo 16 (.fad 4 (.t 3))) (.only 7 [0, 1, 2, 3] ⟨none, .store 1 (.t 16) (.t 14), none⟩ (.done)))))))))) (.seq (.seq (xr [xo 18 (.bin .eql (.t 8) (xi 2)), xv 17 18]) (.cond 17 (.skip) (.seq (xr [xo 19 (.bin .eql (.t 8) (xi 3)), xv 17 19]) (.cond 17 (.skip) (xr [xo 20 (.bin .eql (.t 8) (xi 4)), xv 17 20]))))) (.cond 17 (.dreg (.take 0 (xo 21 (.fad 1 (.t 1))) (.take 1 (xo 22 (.load 1 false (.t 21))) (.take 2 (xo 23 (.fad 2 (.t 1))) (.take 3 (xo 24 (.load 1 false (.t 23))) (.take 4 (xo 25 (.fad 3 (.t 1))) (.take 5 (xo 26 (.load 1 false (.t 25))) (.only 6 [0, 1] (xo 27 (.fad 1 (.t 3))) (.only 7 [0, 1] ⟨none, .store 1 (.t 27) (.t 22), none⟩ (.only 8 [0, 1, 2, 3] (xo 28 (.fad 2 (.t 3))) (.only 9 [0, 1, 2, 3] ⟨none, .store 1 (.t 28) (.t 24), none⟩ (.only 10 [0, 1, 2, 3, 4, 5] (xo 29 (.fad 3 (.t 3))) (.only 11 [0, 1, 2, 3, 4, 5] ⟨none, .store 1 (.t 29) (.t 26), none⟩ (.done)))))))))))))) (.seq (xr [xo 31 (.bin .eql (.t 8) (xi 5)), xv 30 31]) (.cond 30 (.dreg (.take 0 (xo 32 (.fad 1 (.t 1))) (.take 1 (xo 33 (.load 1 false (.t 32))) (.take 2 (xo 34 (.fad 2 (.t 1))) (.take 3 (xo 35 (.load 1 false (.t 34))) (.take 4 (xo 36 (.fad 4 (.t 1))) (.take 5 (xo 37 (.load 1 false (.t 36))) (.only 6 [0, 1] (xo 38 (.fad 1 (.t 3))) (.only 7 [0, 1] ⟨none, .store 1 (.t 38) (.t 33), none⟩ (.only 8 [0, 1, 2, 3] (xo 39 (.fad 2 (.t 3))) (.only 9 [0, 1, 2, 3] ⟨none, .store 1 (.t 39) (.t 35), none⟩ (.only 10 [0, 1, 2, 3, 4, 5] (xo 40 (.fad 4 (.t 3))) (.only 11 [0, 1, 2, 3, 4, 5] ⟨none, .store 1 (.t 40) (.t 37), none⟩ (.done)))))))))))))) (.seq (.seq (xr [xo 42 (.bin .eql (.t 8) (xi 6)), xv 41 42]) (.cond 41 (.skip) (xr [xo 43 (.bin .eql (.t 8) (xi 7)), xv 41 43]))) (.cond 41 (.dreg (.take 0 (xo 44 (.fad 2 (.t 1))) (.take 1 (xo 45 (.load 1 false (.t 44))) (.take 2 (xo 46 (.fad 3 (.t 1))) (.take 3 (xo 47 (.load 1 false (.t 46))) (.take 4 (xo 48 (.fad 4 (.t 1))) (.take 5 (xo 49 (.load 1 false (.t 48))) (.only 6 [0, 1] (xo 50 (.fad 2 (.t 3))) (.only 7 [0, 1] ⟨none, .store 1 (.t 50) (.t 45), none⟩ (.only 8 [0, 1, 2, 3] (xo 51 (.fad 3 (.t 3))) (.only 9 [0, 1, 2, 3] ⟨none, .store 1 (.t 51) (.t 47), none⟩ (.only 10 [0, 1, 2, 3, 4, 5] (xo 52 (.fad 4 (.t 3))) (.only 11 [0, 1, 2, 3, 4, 5] ⟨none, .store 1 (.t 52) (.t 49), none⟩ (.done)))))))))))))) (.seq (xr [xo 54 (.bin .eql (.t 8) (xi 8)), xv 53 54]) (.cond 53 (.dreg (.take 0 (xo 55 (.fad 1 (.t 1))) (.take 1 (xo 56 (.load 1 false (.t 55))) (.take 2 (xo 57 (.fad 3 (.t 1))) (.take 3 (xo 58 (.load 1 false (.t 57))) (.take 4 (xo 59 (.fad 4 (.t 1))) (.take 5 (xo 60 (.load 1 false (.t 59))) (.only 6 [0, 1] (xo 61 (.fad 1 (.t 3))) (.only 7 [0, 1] ⟨none, .store 1 (.t 61) (.t 56), none⟩ (.only 8 [0, 1, 2, 3] (xo 62 (.fad 3 (.t 3))) (.only 9 [0, 1, 2, 3] ⟨none, .store 1 (.t 62) (.t 58), none⟩ (.only 10 [0, 1, 2, 3, 4, 5] (xo 63 (.fad 4 (.t 3))) (.only 11 [0, 1, 2, 3, 4, 5] ⟨none, .store 1 (.t 63) (.t 60), none⟩ (.done)))))))))))))) (.seq (xr [xo 65 (.bin .eql (.t 8) (xi 9)), xv 64 65]) (.cond 64 (xr [xo 66 (.fad 2 (.t 1)), xo 67 (.load 1 false (.t 66)), xo 68 (.fad 2 (.t 3)), ⟨none, .store 1 (.t 68) (.t 67), none⟩]) (.seq (xr [xo 70 (.bin .eql (.t 8) (xi 10)), xv 69 70]) (.cond 69 (xr [xo 71 (.fad 4 (.t 1)), xo 72 (.load 1 false (.t 71)), xo 73 (.fad 4 (.t 3)), ⟨none, .store 1 (.t 73) (.t 72), none⟩]) (.seq (xr [xo 75 (.bin .eql (.t 8) (xi 11)), xv 74 75]) (.cond 74 (.dreg (.take 0 (xo 76 (.fad 2 (.t 1))) (.take 1 (xo 77 (.load 1 false (.t 76))) (.take 2 (xo 78 (.fad 4 (.t 1))) (.take 3 (xo 79 (.load 1 false (.t 78))) (.only 4 [0, 1] (xo 80 (.fad 2 (.t 3))) (.only 5 [0, 1] ⟨none, .store 1 (.t 80) (.t 77), none⟩ (.only 6 [0, 1, 2, 3] (xo 81 (.fad 4 (.t 3))) (.only 7 [0, 1, 2, 3] ⟨none, .store 1 (.t 81) (.t 79), none⟩ (.done)))))))))) (.skip))))))))))))))))))) (.seq (xr [xo 82 (.load 5 true (.t 3)), ⟨none, .store 5 (.t 2) (.t 82), none⟩]) (.ret))))⟩
theorem c310 : chkC Tryz.prog num Tryz.f237.ntmps m310.body ((Tryz.f237.body).getD .skip) = true := by kernel_rfl
def m311 : MFn := ⟨5, [.t 2], .seq (xr [xo 2 (.mv (.c (.bool false)))]) (.seq (xr [xv 3 0, xo 4 (.call 59 [false, false, false] [.t 3, xi 0, xi 23]), xv 2 4]) (.ret))⟩
theorem c311 : chkC Tryz.prog num Tryz.f200.ntmps m311.body ((Tryz.f200.body).getD .skip) = true := by kernel_rfl
def stepOk (x : Step) (pl : Int) : Bool :=
  within x.r 0 7 && within x.b 0 7 && (within x.a 0 7 || ((decide (x.op = 5) || decide (x.op = 6) || decide (x.op = 7)) && decide (x.a = -1))) &&
  (if x.op = 1 then within x.n (-1000000000) 1000000000 && decide (x.a = 0) && decide (x.b = 0)
   else if x.op = 2 ∨ x.op = 3 ∨ x.op = 4 then decide (x.n = 0)
   else if x.op = 5 then within x.n 0 23 && decide (x.b = 0)
   else if x.op = 6 ∨ x.op = 7 then within x.n 0 23 && decide (x.r = 0)
   else if x.op = 8 then within x.n 0 23 && decide (x.a = 0)
   else if x.op = 9 then decide (x.r = 0) && decide (x.b = 0) && decide (x.n = 0)
   else if x.op = 10 then decide (0 ≤ x.n) && decide (x.n < pl) && decide (x.r = 0) && decide (x.a = 0) && decide (x.b = 0)
   else if x.op = 11 then decide (0 ≤ x.n) && decide (x.n < pl) && decide (x.r = 0) && decide (x.b = 0)
   else if x.op = 12 ∨ x.op = 13 then decide (x.r = 0) && (decide (x.a = 0) && (decide (x.b = 0) && decide (x.n = 0)))
   else false)
def stepNamed (x : Step) : Step :=
  if x.op = 1 then ⟨x.op, x.r, 0, 0, x.n⟩
  else if x.op = 2 ∨ x.op = 3 ∨ x.op = 4 then ⟨x.op, x.r, x.a, x.b, 0⟩
  else if x.op = 5 then ⟨x.op, x.r, x.a, 0, x.n⟩
  else if x.op = 6 ∨ x.op = 7 then ⟨x.op, 0, x.a, x.b, x.n⟩
  else if x.op = 8 then ⟨x.op, x.r, 0, x.b, x.n⟩
  else if x.op = 9 then ⟨x.op, 0, x.a, 0, 0⟩
  else if x.op = 10 then ⟨x.op, 0, 0, 0, x.n⟩
  else if x.op = 11 then ⟨x.op, 0, x.a, 0, x.n⟩
  else ⟨x.op, 0, 0, 0, 0⟩
def stepOkF (x : Step) (pl : Int) : Bool :=
  within x.op 1 13 && (decide (x.op = (stepNamed x).op) && (decide (x.r = (stepNamed x).r) && (decide (x.a = (stepNamed x).a) && (decide (x.b = (stepNamed x).b) && decide (x.n = (stepNamed x).n))))) &&
  within x.r 0 7 && within x.a (if within x.op 5 7 = true then -1 else 0) 7 && within x.b 0 7 &&
  (if x.op = 1 then within x.n (-1000000000) 1000000000
   else if x.op = 5 ∨ x.op = 6 ∨ x.op = 7 ∨ x.op = 8 then within x.n 0 23
   else if x.op = 10 ∨ x.op = 11 then decide (0 ≤ x.n) && decide (x.n < pl)
   else true)
theorem isCell_ok (n : Int) : CallOk Tryz.prog num 311 [.int .i64 n] [] (.bool (within n 0 23)) := by
  refine enter (m := m311) (f := 311) (fn := Tryz.f200) Tryz.func200 (by kernel_rfl) rfl c311 rfl (by simp [Tryz.f200]) (by simp [bnds, bnd, nf_sl, nf_int, nf_bool, nf_str, ints_bnd]) (fun _ _ h => by simp [preH, look] at h) ?_
  unfold m311
  simp only [go_sem, qA, qB, qC, qD, qE, qF, qG, qH]
  repeat refine K ?_
  refine CA [] (within_ok n 0 23) ?_
  try simp only [go_sem, qA, qB, qC, qD, qE, qF, qG, qH]
  repeat refine K ?_
  refine ⟨_, Sub.refl _, ?_⟩; simp [FinS, nilL, nilV, oneOr, -List.drop_one]
theorem l7Reg_ok (n : Int) : CallOk Tryz.prog num 301 [.int .i64 n] [] (.bool (within n 0 7)) := by
  refine enter (m := m301) (f := 301) (fn := Tryz.f233) Tryz.func233 (by kernel_rfl) rfl c301 rfl (by simp [Tryz.f233]) (by simp [bnds, bnd, nf_sl, nf_int, nf_bool, nf_str, ints_bnd]) (fun _ _ h => by simp [preH, look] at h) ?_
  unfold m301
  simp only [go_sem, qA, qB, qC, qD, qE, qF, qG, qH]
  repeat refine K ?_
  refine CA [] (l1In_ok n 0 7) ?_
  try simp only [go_sem, qA, qB, qC, qD, qE, qF, qG, qH]
  repeat refine K ?_
  refine ⟨_, Sub.refl _, ?_⟩; simp [FinS, nilL, nilV, oneOr, -List.drop_one]
set_option maxHeartbeats 4000000 in
theorem stepNamed_ok (x : Step) : CallOk Tryz.prog num 310 [.agg (stepC x)] [] (.agg (stepC (stepNamed x))) := by
  refine enter (m := m310) (f := 310) (fn := Tryz.f237) Tryz.func237 (by kernel_rfl) rfl c310 rfl (by simp [Tryz.f237]) (by simp [bnds, bnd, nf_sl, nf_int, nf_bool, nf_str, ints_bnd]) (fun _ _ h => by simp [preH, look] at h) ?_
  unfold m310
  repeat' (first
    | (simp only [go_sem, qA, qB, qC, qD, qE, qF, qG, qH])
    | (refine branch_intro (fun hc => ?_) (fun hc => ?_) <;> ((try simp only [Bool.not_eq_true', Bool.not_eq_false', ne_eq, Bool.not_eq_true, Bool.not_eq_false] at hc) <;> (try simp only [hc])))
    | (refine maybe_intro (fun hc => ?_) (fun hc => ?_) <;> ((try simp only [Bool.not_eq_true', Bool.not_eq_false', ne_eq, Bool.not_eq_true, Bool.not_eq_false] at hc) <;> (try simp only [hc])))
    | (refine dmaybe_intro (fun hc => ?_) (fun hc => ?_) <;> ((try simp only [Bool.not_eq_true', Bool.not_eq_false', ne_eq, Bool.not_eq_true, Bool.not_eq_false] at hc) <;> (try simp only [hc])))
    | (refine ⟨by first | omega | (simp; done), ?_⟩)
    | fail)
  all_goals (refine ⟨_, Sub.refl _, ?_⟩; simp [FinS, nilL, nilV, oneOr, -List.drop_one])
  all_goals (try (simp_all [stepNamed]; done))
theorem stepOkF_eq (x : Step) (pl : Int) : stepOkF x pl = stepOk x pl := by
  obtain ⟨op, r, a, b, n⟩ := x
  by_cases h : 1 ≤ op ∧ op ≤ 13
  · obtain rfl | rfl | rfl | rfl | rfl | rfl | rfl | rfl | rfl | rfl | rfl | rfl | rfl : op = 1 ∨ op = 2 ∨ op = 3 ∨ op = 4 ∨ op = 5 ∨ op = 6 ∨ op = 7 ∨ op = 8 ∨ op = 9 ∨ op = 10 ∨ op = 11 ∨ op = 12 ∨ op = 13 := by omega
    all_goals (rw [Bool.eq_iff_iff]; simp [stepOkF, stepOk, stepNamed, within_eq]; try omega)
  · have h1 : ¬ op = 1 := by omega
    have h2 : ¬ op = 2 := by omega
    have h3 : ¬ op = 3 := by omega
    have h4 : ¬ op = 4 := by omega
    have h5 : ¬ op = 5 := by omega
    have h6 : ¬ op = 6 := by omega
    have h7 : ¬ op = 7 := by omega
    have h8 : ¬ op = 8 := by omega
    have h9 : ¬ op = 9 := by omega
    have h10 : ¬ op = 10 := by omega
    have h11 : ¬ op = 11 := by omega
    have h12 : ¬ op = 12 := by omega
    have h13 : ¬ op = 13 := by omega
    have hw : within op 1 13 = false := by rw [within_eq]; simp; omega
    simp [stepOkF, stepOk, hw, h1, h2, h3, h4, h5, h6, h7, h8, h9, h10, h11, h12, h13]

-- S2
set_option maxHeartbeats 8000000 in
theorem implStepOk_ok (x : Step) (pl : Int) : CallOk Tryz.prog num 268 [.agg (stepC x), .int .i64 pl] [] (.bool (stepOk x pl)) := by
  rw [← stepOkF_eq]
  refine enter (m := m268) (f := 268) (fn := Tryz.f199) Tryz.func199 (by kernel_rfl) rfl c268 rfl (by simp [Tryz.f199]) (by simp [bnds, bnd, nf_sl, nf_int, nf_bool, nf_str, ints_bnd]) (fun _ _ h => by simp [preH, look] at h) ?_
  unfold m268
  simp only [go_sem, qA, qB, qC, qD, qE, qF, qG, qH]
  repeat refine K ?_
  refine CA [] (within_ok x.op 5 7) ?_
  try simp only [go_sem, qA, qB, qC, qD, qE, qF, qG, qH]
  repeat refine K ?_
  cases hm : within x.op 5 7
  · try simp only [go_sem, qA, qB, qC, qD, qE, qF, qG, qH, hm]
    repeat refine K ?_
    refine DA [] (within_ok x.op 1 13) ?_
    try simp only [go_sem, qA, qB, qC, qD, qE, qF, qG, qH]
    repeat refine K ?_
    cases h1 : within x.op 1 13
    · try simp only [go_sem, qA, qB, qC, qD, qE, qF, qG, qH, h1]
      repeat refine K ?_
      refine ⟨_, Sub.refl _, ?_⟩; simp [FinS, nilL, nilV, oneOr, -List.drop_one]
      simp [stepOkF, h1]
    try simp only [go_sem, qA, qB, qC, qD, qE, qF, qG, qH, h1]
    repeat refine K ?_
    refine DA [] (stepNamed_ok x) ?_
    try simp only [go_sem, qA, qB, qC, qD, qE, qF, qG, qH]
    repeat refine K ?_
    try simp only [go_sem, qA, qB, qC, qD, qE, qF, qG, qH]
    repeat refine K ?_
    generalize hE : (decide (x.op = (stepNamed x).op) && (decide (x.r = (stepNamed x).r) && (decide (x.a = (stepNamed x).a) && (decide (x.b = (stepNamed x).b) && decide (x.n = (stepNamed x).n))))) = E
    cases E
    · try simp only [go_sem, qA, qB, qC, qD, qE, qF, qG, qH, hE]
      repeat refine K ?_
      refine ⟨_, Sub.refl _, ?_⟩; simp [FinS, nilL, nilV, oneOr, -List.drop_one]
      simp only [stepOkF, hE]
      simp
    try simp only [go_sem, qA, qB, qC, qD, qE, qF, qG, qH, hE]
    repeat refine K ?_
    refine DA [] (within_ok x.r 0 7) ?_
    try simp only [go_sem, qA, qB, qC, qD, qE, qF, qG, qH]
    repeat refine K ?_
    cases hr : within x.r 0 7
    · try simp only [go_sem, qA, qB, qC, qD, qE, qF, qG, qH, hr]
      repeat refine K ?_
      refine ⟨_, Sub.refl _, ?_⟩; simp [FinS, nilL, nilV, oneOr, -List.drop_one]
      simp [stepOkF, hr]
    try simp only [go_sem, qA, qB, qC, qD, qE, qF, qG, qH, hr]
    repeat refine K ?_
    refine DA [] (within_ok x.a (0) 7) ?_
    try simp only [go_sem, qA, qB, qC, qD, qE, qF, qG, qH]
    repeat refine K ?_
    generalize ha : within x.a (0) 7 = A
    cases A
    · try simp only [go_sem, qA, qB, qC, qD, qE, qF, qG, qH, ha]
      repeat refine K ?_
      refine ⟨_, Sub.refl _, ?_⟩; simp [FinS, nilL, nilV, oneOr, -List.drop_one]
      simp [stepOkF, hm, ha]
    try simp only [go_sem, qA, qB, qC, qD, qE, qF, qG, qH, ha]
    repeat refine K ?_
    refine DA [] (within_ok x.b 0 7) ?_
    try simp only [go_sem, qA, qB, qC, qD, qE, qF, qG, qH]
    repeat refine K ?_
    cases hb : within x.b 0 7
    · try simp only [go_sem, qA, qB, qC, qD, qE, qF, qG, qH, hb]
      repeat refine K ?_
      refine ⟨_, Sub.refl _, ?_⟩; simp [FinS, nilL, nilV, oneOr, -List.drop_one]
      simp [stepOkF, hb]
    try simp only [go_sem, qA, qB, qC, qD, qE, qF, qG, qH, hb]
    repeat refine K ?_
    have hF : stepOkF x pl = (if x.op = 1 then within x.n (-1000000000) 1000000000
      else if x.op = 5 ∨ x.op = 6 ∨ x.op = 7 ∨ x.op = 8 then within x.n 0 23
      else if x.op = 10 ∨ x.op = 11 then decide (0 ≤ x.n) && decide (x.n < pl)
      else true) := by
      unfold stepOkF
      rw [h1, hE, hr, hm, hb]
      simp [ha]
    rw [hF]
    clear hF
    repeat' (first
      | (simp only [go_sem, qA, qB, qC, qD, qE, qF, qG, qH])
      | (refine branch_intro (fun hc => ?_) (fun hc => ?_) <;> ((try simp only [Bool.not_eq_true', Bool.not_eq_false', ne_eq, Bool.not_eq_true, Bool.not_eq_false] at hc) <;> (try simp only [hc])))
      | (refine maybe_intro (fun hc => ?_) (fun hc => ?_) <;> ((try simp only [Bool.not_eq_true', Bool.not_eq_false', ne_eq, Bool.not_eq_true, Bool.not_eq_false] at hc) <;> (try simp only [hc])))
      | (refine dmaybe_intro (fun hc => ?_) (fun hc => ?_) <;> ((try simp only [Bool.not_eq_true', Bool.not_eq_false', ne_eq, Bool.not_eq_true, Bool.not_eq_false] at hc) <;> (try simp only [hc])))
      | (refine call_plain (within_ok _ _ _) rfl rfl rfl rfl ?_)
      | (refine dcall_plain (within_ok _ _ _) rfl rfl rfl rfl ?_)
      | (refine call_plain (isCell_ok _) rfl rfl rfl rfl ?_)
      | (refine dcall_plain (isCell_ok _) rfl rfl rfl rfl ?_)
      | (refine ⟨by first | omega | (simp; done), ?_⟩)
      | fail)
    all_goals (refine ⟨_, Sub.refl _, ?_⟩; simp [FinS, nilL, nilV, oneOr, -List.drop_one])
    all_goals (try (simp_all; done))
  · try simp only [go_sem, qA, qB, qC, qD, qE, qF, qG, qH, hm]
    repeat refine K ?_
    refine DA [] (within_ok x.op 1 13) ?_
    try simp only [go_sem, qA, qB, qC, qD, qE, qF, qG, qH]
    repeat refine K ?_
    cases h1 : within x.op 1 13
    · try simp only [go_sem, qA, qB, qC, qD, qE, qF, qG, qH, h1]
      repeat refine K ?_
      refine ⟨_, Sub.refl _, ?_⟩; simp [FinS, nilL, nilV, oneOr, -List.drop_one]
      simp [stepOkF, h1]
    try simp only [go_sem, qA, qB, qC, qD, qE, qF, qG, qH, h1]
    repeat refine K ?_
    refine DA [] (stepNamed_ok x) ?_
    try simp only [go_sem, qA, qB, qC, qD, qE, qF, qG, qH]
    repeat refine K ?_
    try simp only [go_sem, qA, qB, qC, qD, qE, qF, qG, qH]
    repeat refine K ?_
    generalize hE : (decide (x.op = (stepNamed x).op) && (decide (x.r = (stepNamed x).r) && (decide (x.a = (stepNamed x).a) && (decide (x.b = (stepNamed x).b) && decide (x.n = (stepNamed x).n))))) = E
    cases E
    · try simp only [go_sem, qA, qB, qC, qD, qE, qF, qG, qH, hE]
      repeat refine K ?_
      refine ⟨_, Sub.refl _, ?_⟩; simp [FinS, nilL, nilV, oneOr, -List.drop_one]
      simp only [stepOkF, hE]
      simp
    try simp only [go_sem, qA, qB, qC, qD, qE, qF, qG, qH, hE]
    repeat refine K ?_
    refine DA [] (within_ok x.r 0 7) ?_
    try simp only [go_sem, qA, qB, qC, qD, qE, qF, qG, qH]
    repeat refine K ?_
    cases hr : within x.r 0 7
    · try simp only [go_sem, qA, qB, qC, qD, qE, qF, qG, qH, hr]
      repeat refine K ?_
      refine ⟨_, Sub.refl _, ?_⟩; simp [FinS, nilL, nilV, oneOr, -List.drop_one]
      simp [stepOkF, hr]
    try simp only [go_sem, qA, qB, qC, qD, qE, qF, qG, qH, hr]
    repeat refine K ?_
    refine DA [] (within_ok x.a (-1) 7) ?_
    try simp only [go_sem, qA, qB, qC, qD, qE, qF, qG, qH]
    repeat refine K ?_
    generalize ha : within x.a (-1) 7 = A
    cases A
    · try simp only [go_sem, qA, qB, qC, qD, qE, qF, qG, qH, ha]
      repeat refine K ?_
      refine ⟨_, Sub.refl _, ?_⟩; simp [FinS, nilL, nilV, oneOr, -List.drop_one]
      simp [stepOkF, hm, ha]
    try simp only [go_sem, qA, qB, qC, qD, qE, qF, qG, qH, ha]
    repeat refine K ?_
    refine DA [] (within_ok x.b 0 7) ?_
    try simp only [go_sem, qA, qB, qC, qD, qE, qF, qG, qH]
    repeat refine K ?_
    cases hb : within x.b 0 7
    · try simp only [go_sem, qA, qB, qC, qD, qE, qF, qG, qH, hb]
      repeat refine K ?_
      refine ⟨_, Sub.refl _, ?_⟩; simp [FinS, nilL, nilV, oneOr, -List.drop_one]
      simp [stepOkF, hb]
    try simp only [go_sem, qA, qB, qC, qD, qE, qF, qG, qH, hb]
    repeat refine K ?_
    have hF : stepOkF x pl = (if x.op = 1 then within x.n (-1000000000) 1000000000
      else if x.op = 5 ∨ x.op = 6 ∨ x.op = 7 ∨ x.op = 8 then within x.n 0 23
      else if x.op = 10 ∨ x.op = 11 then decide (0 ≤ x.n) && decide (x.n < pl)
      else true) := by
      unfold stepOkF
      rw [h1, hE, hr, hm, hb]
      simp [ha]
    rw [hF]
    clear hF
    repeat' (first
      | (simp only [go_sem, qA, qB, qC, qD, qE, qF, qG, qH])
      | (refine branch_intro (fun hc => ?_) (fun hc => ?_) <;> ((try simp only [Bool.not_eq_true', Bool.not_eq_false', ne_eq, Bool.not_eq_true, Bool.not_eq_false] at hc) <;> (try simp only [hc])))
      | (refine maybe_intro (fun hc => ?_) (fun hc => ?_) <;> ((try simp only [Bool.not_eq_true', Bool.not_eq_false', ne_eq, Bool.not_eq_true, Bool.not_eq_false] at hc) <;> (try simp only [hc])))
      | (refine dmaybe_intro (fun hc => ?_) (fun hc => ?_) <;> ((try simp only [Bool.not_eq_true', Bool.not_eq_false', ne_eq, Bool.not_eq_true, Bool.not_eq_false] at hc) <;> (try simp only [hc])))
      | (refine call_plain (within_ok _ _ _) rfl rfl rfl rfl ?_)
      | (refine dcall_plain (within_ok _ _ _) rfl rfl rfl rfl ?_)
      | (refine call_plain (isCell_ok _) rfl rfl rfl rfl ?_)
      | (refine dcall_plain (isCell_ok _) rfl rfl rfl rfl ?_)
      | (refine ⟨by first | omega | (simp; done), ?_⟩)
      | fail)
    all_goals (refine ⟨_, Sub.refl _, ?_⟩; simp [FinS, nilL, nilV, oneOr, -List.drop_one])
    all_goals (try (simp_all; done))

end Go.Sep
