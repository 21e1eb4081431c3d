/- Contracts of functions. -/
import Derived.Test.YtoijhndfkfliiaaCona
namespace Go.Sep
open Go.Proofs
set_option linter.unusedSimpArgs false
set_option linter.unusedVariables false
set_option maxRecDepth 100000
def m79 : MFn := ⟨33, [.cell 4 3 true, .t 5], .seq (xr [xo 2 (.box (.t 0)), xo 4 (.alloc [.int .i64 0, .nil, .bool false]), xo 5 (.mv (xi 0))]) (.seq (xr [xo 7 (.load 3 true (.t 2)), xo 8 (.call 70 [false] [.t 7]), xo 6 (.alloc [.int .i64 0, .nil, .bool false]), ⟨none, .store 3 (.t 6) (.t 8), none⟩]) (.seq (.blk 0 (.seq (xr [xo 10 (.fad 2 (.t 2)), xo 11 (.load 1 false (.t 10)), xv 12 11, xg 13 (.load 3 true (.t 2)) 12 false, xg 14 (.call 72 [false] [.t 13]) 12 false, xg 15 (.un .«not» (.t 14)) 12 false, xo 16 (.pick (.t 12) (.c (.bool true)) (.t 15)), xv 9 16]) (.cond 9 (.seq (xr [xo 17 (.load 3 true (.t 6)), ⟨none, .store 3 (.t 4) (.t 17), none⟩, xo 5 (.mv (xi 2))]) (.ret)) (.seq (xr [xo 19 (.fad 1 (.t 2)), xo 20 (.load 1 false (.t 19)), xo 21 (.len (.t 20)), xo 22 (.fad 0 (.t 2)), xo 23 (.load 1 false (.t 22)), xo 24 (.bin .eql (.t 21) (.t 23)), xv 18 24]) (.cond 18 (.seq (xr [xo 25 (.load 3 true (.t 6)), ⟨none, .store 3 (.t 4) (.t 25), none⟩, xo 5 (.mv (xi 1))]) (.ret)) (.skip)))))) (.seq (xr [xo 26 (.fad 1 (.t 6)), xo 27 (.load 1 false (.t 26)), xv 28 1, xo 29 (.mkSl [xz] 1 [(0, .t 28)]), xo 30 (.app 1 8 (.t 27) (.t 29)), xo 31 (.fad 1 (.t 6)), ⟨none, .store 1 (.t 31) (.t 30), none⟩]) (.seq (xr [xo 32 (.load 3 true (.t 6)), ⟨none, .store 3 (.t 4) (.t 32), none⟩, xo 5 (.mv (xi 0))]) (.ret)))))⟩
theorem c79 : chkC Try.prog num Try.f246.ntmps m79.body ((Try.f246.body).getD .skip) = true := by kernel_rfl
def m80 : MFn := ⟨32, [.cell 2 3 true, .t 3, .t 4], .seq (xr [xo 1 (.box (.t 0)), xo 2 (.alloc [.int .i64 0, .nil, .bool false]), xo 3 (.mv (xi 0)), xo 4 (.mv (xi 0))]) (.seq (xr [xo 6 (.load 3 true (.t 1)), xo 7 (.call 70 [false] [.t 6]), xo 5 (.alloc [.int .i64 0, .nil, .bool false]), ⟨none, .store 3 (.t 5) (.t 7), none⟩]) (.seq (.blk 0 (.seq (xr [xo 9 (.load 3 true (.t 1)), xo 10 (.call 72 [false] [.t 9]), xo 11 (.un .«not» (.t 10)), xv 8 11]) (.cond 8 (.seq (xr [xo 12 (.load 3 true (.t 5)), ⟨none, .store 3 (.t 2) (.t 12), none⟩, xo 3 (.mv (xi 0)), xo 4 (.mv (xi 2))]) (.ret)) (.seq (xr [xo 14 (.fad 1 (.t 1)), xo 15 (.load 1 false (.t 14)), xo 16 (.len (.t 15)), xo 17 (.bin .gtr (.t 16) (xi 0)), xv 13 17]) (.cond 13 (.seq (xr [xo 18 (.fad 1 (.t 5)), xo 19 (.load 1 false (.t 18)), xo 20 (.cut 1 (.t 19) (some (xi 1)) none), xo 21 (.fad 1 (.t 5)), ⟨none, .store 1 (.t 21) (.t 20), none⟩]) (.seq (.dreg (.take 0 (xo 22 (.load 3 true (.t 5))) (.take 1 (xo 23 (.fad 1 (.t 1))) (.take 2 (xo 24 (.load 1 false (.t 23))) (.take 3 (xo 25 (.iad 1 (.t 24) (xi 0))) (.take 4 (xo 26 (.load 1 false (.t 25))) (.only 5 [0] ⟨none, .store 3 (.t 2) (.t 22), none⟩ (.only 6 [0, 1, 2, 3, 4] (xv 3 26) (.only 7 [0, 1, 2, 3, 4] (xo 4 (.mv (xi 0))) (.done)))))))))) (.ret))) (.seq (xr [xo 28 (.fad 2 (.t 1)), xo 29 (.load 1 false (.t 28)), xv 27 29]) (.cond 27 (.seq (xr [xo 30 (.load 3 true (.t 5)), ⟨none, .store 3 (.t 2) (.t 30), none⟩, xo 3 (.mv (xi 0)), xo 4 (.mv (xi 3))]) (.ret)) (.skip)))))))) (.seq (xr [xo 31 (.load 3 true (.t 5)), ⟨none, .store 3 (.t 2) (.t 31), none⟩, xo 3 (.mv (xi 0)), xo 4 (.mv (xi 1))]) (.ret))))⟩
theorem c80 : chkC Try.prog num Try.f247.ntmps m80.body ((Try.f247.body).getD .skip) = true := by kernel_rfl
def m81 : MFn := ⟨17, [.cell 2 3 true, .t 3], .seq (xr [xo 1 (.box (.t 0)), xo 2 (.alloc [.int .i64 0, .nil, .bool false]), xo 3 (.mv (xi 0))]) (.seq (xr [xo 5 (.load 3 true (.t 1)), xo 6 (.call 70 [false] [.t 5]), xo 4 (.alloc [.int .i64 0, .nil, .bool false]), ⟨none, .store 3 (.t 4) (.t 6), none⟩]) (.seq (.seq (xr [xo 7 (.fad 2 (.t 1)), xo 8 (.load 1 false (.t 7)), xv 9 8, xg 10 (.load 3 true (.t 1)) 9 false, xg 11 (.call 72 [false] [.t 10]) 9 false, xg 12 (.un .«not» (.t 11)) 9 false, xo 13 (.pick (.t 9) (.c (.bool true)) (.t 12))]) (.cond 13 (.seq (xr [xo 14 (.load 3 true (.t 4)), ⟨none, .store 3 (.t 2) (.t 14), none⟩, xo 3 (.mv (xi 2))]) (.ret)) (.skip))) (.seq (xr [xo 15 (.fad 2 (.t 4)), ⟨none, .store 1 (.t 15) (.c (.bool true)), none⟩]) (.seq (xr [xo 16 (.load 3 true (.t 4)), ⟨none, .store 3 (.t 2) (.t 16), none⟩, xo 3 (.mv (xi 0))]) (.ret)))))⟩
theorem c81 : chkC Try.prog num Try.f248.ntmps m81.body ((Try.f248.body).getD .skip) = true := by kernel_rfl
def m88 : MFn := ⟨88, [.t 6], .seq (xr [xo 3 (.box (.t 0)), xo 6 (.mv (.c (.bool false)))]) (.seq (.seq (.dreg (.only 0 [] (xv 7 2) (.only 1 [] (xo 8 (.call 59 [false, false, false] [.t 7, xi 0, xi 3])) (.only 2 [] (xo 9 (.un .«not» (.t 8))) (.only 3 [] (xv 10 9) (.only 4 [] (xg 11 (.fad 0 (.t 3)) 10 false) (.only 5 [] (xg 12 (.load 1 false (.t 11)) 10 false) (.only 6 [] (xg 13 (.call 59 [false, false, false] [.t 12, xi 1, xi 13]) 10 false) (.only 7 [] (xg 14 (.un .«not» (.t 13)) 10 false) (.only 8 [] (xo 15 (.pick (.t 10) (.c (.bool true)) (.t 14))) (.only 9 [] (xv 16 15) (.take 10 (xg 17 (.load 5 true (.t 3)) 16 false) (.only 11 [] (xg 18 (.load 5 true (.t 3)) 16 false) (.only 12 [] (xg 19 (.call 96 [false] [.t 18]) 16 false) (.only 13 [10] (xg 20 (.eqS true [true, true, true, true, true] (.t 17) (.t 19)) 16 false) (.only 14 [] (xo 21 (.pick (.t 16) (.c (.bool true)) (.t 20))) (.only 15 [] (xv 22 21) (.only 16 [] (xg 23 (.fad 1 (.t 3)) 22 false) (.only 17 [] (xg 24 (.load 1 false (.t 23)) 22 false) (.only 18 [] (xg 25 (.call 97 [false] [.t 24]) 22 false) (.only 19 [] (xg 26 (.un .«not» (.t 25)) 22 false) (.only 20 [] (xo 27 (.pick (.t 22) (.c (.bool true)) (.t 26))) (.only 21 [] (xv 28 27) (.only 22 [] (xg 29 (.fad 2 (.t 3)) 28 false) (.only 23 [] (xg 30 (.load 1 false (.t 29)) 28 false) (.only 24 [] (xg 31 (.call 97 [false] [.t 30]) 28 false) (.only 25 [] (xg 32 (.un .«not» (.t 31)) 28 false) (.only 26 [] (xo 33 (.pick (.t 28) (.c (.bool true)) (.t 32))) (.only 27 [] (xv 34 33) (.only 28 [] (xg 35 (.fad 3 (.t 3)) 34 false) (.only 29 [] (xg 36 (.load 1 false (.t 35)) 34 false) (.only 30 [] (xg 37 (.call 97 [false] [.t 36]) 34 false) (.only 31 [] (xg 38 (.un .«not» (.t 37)) 34 false) (.only 32 [] (xo 39 (.pick (.t 34) (.c (.bool true)) (.t 38))) (.done))))))))))))))))))))))))))))))))))) (.cond 39 (.seq (xr [xo 6 (.mv (.c (.bool false)))]) (.ret)) (.skip))) (.seq (.blk 0 (.seq (xr [xo 41 (.fad 0 (.t 3)), xo 42 (.load 1 false (.t 41)), xo 43 (.bin .eql (.t 42) (xi 1)), xv 40 43]) (.cond 40 (.seq (xr [xo 44 (.fad 4 (.t 3)), xo 45 (.load 1 false (.t 44)), xo 46 (.call 59 [false, false, false] [.t 45, .c (.int .i64 (-1000000000)), xi 1000000000]), xv 6 46]) (.ret)) (.seq (xr [xo 48 (.fad 0 (.t 3)), xo 49 (.load 1 false (.t 48)), xo 50 (.bin .eql (.t 49) (xi 11)), xv 51 50, xg 52 (.fad 0 (.t 3)) 51 false, xg 53 (.load 1 false (.t 52)) 51 false, xg 54 (.bin .eql (.t 53) (xi 12)) 51 false, xo 55 (.pick (.t 51) (.c (.bool true)) (.t 54)), xv 47 55]) (.cond 47 (.seq (xr [xo 56 (.fad 4 (.t 3)), xo 57 (.load 1 false (.t 56)), xv 58 1, xo 59 (.bin .sub (.t 58) (xi 1)), xo 60 (.call 59 [false, false, false] [.t 57, xi 0, .t 59]), xv 6 60]) (.ret)) (.seq (xr [xo 62 (.fad 0 (.t 3)), xo 63 (.load 1 false (.t 62)), xo 64 (.bin .eql (.t 63) (xi 6)), xv 65 64, xg 66 (.fad 0 (.t 3)) 65 false, xg 67 (.load 1 false (.t 66)) 65 false, xg 68 (.bin .eql (.t 67) (xi 8)) 65 false, xo 69 (.pick (.t 65) (.c (.bool true)) (.t 68)), xv 70 69, xg 71 (.fad 1 (.t 3)) 70 true, xg 72 (.load 1 false (.t 71)) 70 true, xg 73 (.fad 3 (.t 3)) 70 true, xg 74 (.load 1 false (.t 73)) 70 true, xg 75 (.bin .eql (.t 72) (.t 74)) 70 true, xo 76 (.pick (.t 70) (.t 75) (.c (.bool false))), xv 61 76]) (.cond 61 (.seq (xr [xo 6 (.mv (.c (.bool false)))]) (.ret)) (.skip)))))))) (.seq (xr [xo 77 (.fad 0 (.t 3)), xo 78 (.load 1 false (.t 77)), xo 79 (.call 44 [false] [.t 78]), xo 80 (.un .«not» (.t 79)), xv 81 80, xg 82 (.fad 4 (.t 3)) 81 false, xg 83 (.load 1 false (.t 82)) 81 false, xg 84 (.mv (.t 2)) 81 false, xg 85 (.bin .sub (.t 84) (xi 1)) 81 false, xg 86 (.call 59 [false, false, false] [.t 83, xi 0, .t 85]) 81 false, xo 87 (.pick (.t 81) (.c (.bool true)) (.t 86)), xv 6 87]) (.ret))))⟩
theorem c88 : chkC Try.prog num Try.f197.ntmps m88.body ((Try.f197.body).getD .skip) = true := by kernel_rfl
def m93 : MFn := ⟨31, [.cell 4 3 true, .t 5], .seq (xr [xo 2 (.box (.t 0)), xo 4 (.alloc [.int .i64 0, .nil, .bool false]), xo 5 (.mv (xi 0))]) (.seq (xr [xo 7 (.load 3 true (.t 2)), xo 8 (.call 84 [false] [.t 7]), xo 6 (.alloc [.int .i64 0, .nil, .bool false]), ⟨none, .store 3 (.t 6) (.t 8), none⟩]) (.seq (.seq (xr [xo 9 (.fad 2 (.t 2)), xo 10 (.load 1 false (.t 9)), xv 11 10, xg 12 (.load 3 true (.t 2)) 11 false, xg 13 (.call 83 [false] [.t 12]) 11 false, xg 14 (.un .«not» (.t 13)) 11 false, xo 15 (.pick (.t 11) (.c (.bool true)) (.t 14))]) (.cond 15 (.seq (xr [xo 16 (.load 3 true (.t 6)), ⟨none, .store 3 (.t 4) (.t 16), none⟩, xo 5 (.mv (xi 2))]) (.ret)) (.skip))) (.seq (.seq (xr [xo 17 (.fad 1 (.t 2)), xo 18 (.load 1 false (.t 17)), xo 19 (.len (.t 18)), xo 20 (.fad 0 (.t 2)), xo 21 (.load 1 false (.t 20)), xo 22 (.bin .eql (.t 19) (.t 21))]) (.cond 22 (.seq (xr [xo 23 (.load 3 true (.t 6)), ⟨none, .store 3 (.t 4) (.t 23), none⟩, xo 5 (.mv (xi 1))]) (.ret)) (.skip))) (.seq (xr [xo 24 (.fad 1 (.t 6)), xo 25 (.load 1 false (.t 24)), xv 26 1, xo 27 (.mkSl [xz] 1 [(0, .t 26)]), xo 28 (.app 1 8 (.t 25) (.t 27)), xo 29 (.fad 1 (.t 6)), ⟨none, .store 1 (.t 29) (.t 28), none⟩]) (.seq (xr [xo 30 (.load 3 true (.t 6)), ⟨none, .store 3 (.t 4) (.t 30), none⟩, xo 5 (.mv (xi 0))]) (.ret))))))⟩
theorem c93 : chkC Try.prog num Try.f282.ntmps m93.body ((Try.f282.body).getD .skip) = true := by kernel_rfl
def m94 : MFn := ⟨17, [.cell 2 3 true, .t 3], .seq (xr [xo 1 (.box (.t 0)), xo 2 (.alloc [.int .i64 0, .nil, .bool false]), xo 3 (.mv (xi 0))]) (.seq (xr [xo 5 (.load 3 true (.t 1)), xo 6 (.call 84 [false] [.t 5]), xo 4 (.alloc [.int .i64 0, .nil, .bool false]), ⟨none, .store 3 (.t 4) (.t 6), none⟩]) (.seq (.seq (xr [xo 7 (.fad 2 (.t 1)), xo 8 (.load 1 false (.t 7)), xv 9 8, xg 10 (.load 3 true (.t 1)) 9 false, xg 11 (.call 83 [false] [.t 10]) 9 false, xg 12 (.un .«not» (.t 11)) 9 false, xo 13 (.pick (.t 9) (.c (.bool true)) (.t 12))]) (.cond 13 (.seq (xr [xo 14 (.load 3 true (.t 4)), ⟨none, .store 3 (.t 2) (.t 14), none⟩, xo 3 (.mv (xi 2))]) (.ret)) (.skip))) (.seq (xr [xo 15 (.fad 2 (.t 4)), ⟨none, .store 1 (.t 15) (.c (.bool true)), none⟩]) (.seq (xr [xo 16 (.load 3 true (.t 4)), ⟨none, .store 3 (.t 2) (.t 16), none⟩, xo 3 (.mv (xi 0))]) (.ret)))))⟩
theorem c94 : chkC Try.prog num Try.f283.ntmps m94.body ((Try.f283.body).getD .skip) = true := by kernel_rfl
def m95 : MFn := ⟨34, [.cell 2 3 true, .t 3, .t 4], .seq (xr [xo 1 (.box (.t 0)), xo 2 (.alloc [.int .i64 0, .nil, .bool false]), xo 3 (.mv (xi 0)), xo 4 (.mv (xi 0))]) (.seq (xr [xo 6 (.load 3 true (.t 1)), xo 7 (.call 84 [false] [.t 6]), xo 5 (.alloc [.int .i64 0, .nil, .bool false]), ⟨none, .store 3 (.t 5) (.t 7), none⟩]) (.seq (.blk 0 (.seq (xr [xo 9 (.load 3 true (.t 1)), xo 10 (.call 83 [false] [.t 9]), xo 11 (.un .«not» (.t 10)), xv 8 11]) (.cond 8 (.seq (xr [xo 12 (.load 3 true (.t 5)), ⟨none, .store 3 (.t 2) (.t 12), none⟩, xo 3 (.mv (xi 0)), xo 4 (.mv (xi 2))]) (.ret)) (.seq (xr [xo 14 (.fad 1 (.t 1)), xo 15 (.load 1 false (.t 14)), xo 16 (.len (.t 15)), xo 17 (.bin .gtr (.t 16) (xi 0)), xv 13 17]) (.cond 13 (.seq (xr [xo 18 (.mkSl [xz] 0 []), xo 19 (.fad 1 (.t 1)), xo 20 (.load 1 false (.t 19)), xo 21 (.cut 1 (.t 20) (some (xi 1)) none), xo 22 (.app 1 8 (.t 18) (.t 21)), xo 23 (.fad 1 (.t 5)), ⟨none, .store 1 (.t 23) (.t 22), none⟩]) (.seq (.dreg (.take 0 (xo 24 (.load 3 true (.t 5))) (.take 1 (xo 25 (.fad 1 (.t 1))) (.take 2 (xo 26 (.load 1 false (.t 25))) (.take 3 (xo 27 (.iad 1 (.t 26) (xi 0))) (.take 4 (xo 28 (.load 1 false (.t 27))) (.only 5 [0] ⟨none, .store 3 (.t 2) (.t 24), none⟩ (.only 6 [0, 1, 2, 3, 4] (xv 3 28) (.only 7 [0, 1, 2, 3, 4] (xo 4 (.mv (xi 0))) (.done)))))))))) (.ret))) (.seq (xr [xo 30 (.fad 2 (.t 1)), xo 31 (.load 1 false (.t 30)), xv 29 31]) (.cond 29 (.seq (xr [xo 32 (.load 3 true (.t 5)), ⟨none, .store 3 (.t 2) (.t 32), none⟩, xo 3 (.mv (xi 0)), xo 4 (.mv (xi 3))]) (.ret)) (.skip)))))))) (.seq (xr [xo 33 (.load 3 true (.t 5)), ⟨none, .store 3 (.t 2) (.t 33), none⟩, xo 3 (.mv (xi 0)), xo 4 (.mv (xi 1))]) (.ret))))⟩
theorem c95 : chkC Try.prog num Try.f284.ntmps m95.body ((Try.f284.body).getD .skip) = true := by kernel_rfl
open Nat renaming reduceAdd → qA, reduceMul → qB, reduceEqDiff → qC, reduceBEq → qD
open Int renaming reduceToNat → qE, reduceEq → qF, reduceLT → qG, reduceLE → qH
open List renaming getD_eq_getElem?_getD → gD

def chanSend (c : Chan) (v : Int) : Chan × Int :=
  if c.closed || !chanOk c then (c, 2) else if (c.list.length : Int) = c.cap then (c, 1) else ({ c with list := c.list ++ [v] }, 0)
def chanTake (c : Chan) : Chan × Int × Int :=
  if !chanOk c then (c, 0, 2) else if 0 < c.list.length then ({ c with list := c.list.drop 1 }, c.list.getD 0 0, 0) else if c.closed then (c, 0, 3) else (c, 0, 1)
def chanClose (c : Chan) : Chan × Int := if c.closed || !chanOk c then (c, 2) else ({ c with closed := true }, 0)

theorem implChanSend_ok (c : Chan) (v : Int) (hx : 8 * c.list.length < 2 ^ 46) : CallOk Try.prog num 79 [.agg (chanC .bw c), .int .i64 v] [] (.tup [.agg (chanC .own (chanSend c v).1), .int .i64 (chanSend c v).2]) := by
  refine enter (m := m79) (f := 79) (fn := Try.f246) Try.func246 (by kernel_rfl) rfl c79 rfl (by simp [Try.f246]) (by simp [bnds, bnd, nf_sl, nf_int, nf_bool, nf_str, ints_bnd]) (fun _ _ h => by simp [preH, look] at h) ?_
  unfold m79
  simp only [go_sem, qA, qB, qC, qD, qE, qF, qG, qH]
  repeat refine K ?_
  refine CA [] (copyChan_ok c (by omega)) ?_
  try simp only [go_sem, qA, qB, qC, qD, qE, qF, qG, qH]
  repeat refine K ?_
  cases hc : c.closed
  · simp only [go_sem, qA, qB, qC, qD, qE, qF, qG, qH, hc]
    repeat refine K ?_
    refine CA [] (implChanOk_ok c) ?_
    try simp only [go_sem, qA, qB, qC, qD, qE, qF, qG, qH]
    repeat refine K ?_
    cases ho : chanOk c
    · simp only [go_sem, qA, qB, qC, qD, qE, qF, qG, qH, ho, hc]
      repeat refine K ?_
      refine ⟨_, Sub.refl _, ?_⟩; simp [FinS, nilL, nilV, oneOr, -List.drop_one]
      simp [chanSend, hc, ho]
    · simp only [go_sem, qA, qB, qC, qD, qE, qF, qG, qH, ho, hc]
      repeat refine K ?_
      by_cases hl : (c.list.length : Int) = c.cap
      · simp only [go_sem, qA, qB, qC, qD, qE, qF, qG, qH, hl]
        repeat refine K ?_
        refine ⟨_, Sub.refl _, ?_⟩; simp [FinS, nilL, nilV, oneOr, -List.drop_one]
        simp [chanSend, hc, ho, hl]
      · simp only [go_sem, qA, qB, qC, qD, qE, qF, qG, qH, hl]
        repeat refine K ?_
        refine ⟨_, Sub.refl _, ?_⟩; simp [FinS, nilL, nilV, oneOr, -List.drop_one]
        simp [chanSend, hc, ho, hl, ints]
  · simp only [go_sem, qA, qB, qC, qD, qE, qF, qG, qH, hc]
    repeat refine K ?_
    refine ⟨_, Sub.refl _, ?_⟩; simp [FinS, nilL, nilV, oneOr, -List.drop_one]
    simp [chanSend, hc]

theorem implChanTake_ok (c : Chan) (hx : 8 * c.list.length < 2 ^ 46) : CallOk Try.prog num 80 [.agg (chanC .bw c)] [] (.tup [.agg (chanC .own (chanTake c).1), .int .i64 (chanTake c).2.1, .int .i64 (chanTake c).2.2]) := by
  refine enter (m := m80) (f := 80) (fn := Try.f247) Try.func247 (by kernel_rfl) rfl c80 rfl (by simp [Try.f247]) (by simp [bnds, bnd, nf_sl, nf_int, nf_bool, nf_str, ints_bnd]) (fun _ _ h => by simp [preH, look] at h) ?_
  unfold m80
  simp only [go_sem, qA, qB, qC, qD, qE, qF, qG, qH]
  repeat refine K ?_
  refine CA [] (copyChan_ok c (by omega)) ?_
  try simp only [go_sem, qA, qB, qC, qD, qE, qF, qG, qH]
  repeat refine K ?_
  refine CA [] (implChanOk_ok c) ?_
  try simp only [go_sem, qA, qB, qC, qD, qE, qF, qG, qH]
  repeat refine K ?_
  cases ho : chanOk c
  · simp only [go_sem, qA, qB, qC, qD, qE, qF, qG, qH, ho]
    repeat refine K ?_
    refine ⟨_, Sub.refl _, ?_⟩; simp [FinS, nilL, nilV, oneOr, -List.drop_one]
    simp [chanTake, ho]
  · simp only [go_sem, qA, qB, qC, qD, qE, qF, qG, qH, ho]
    repeat refine K ?_
    by_cases hl : (0 : Int) < c.list.length
    · have hl' : 0 < c.list.length := by omega
      simp only [go_sem, qA, qB, qC, qD, qE, qF, qG, qH, hl, ints_getD c.list 0 hl']
      repeat refine K ?_
      refine ⟨_, Sub.refl _, ?_⟩; simp [FinS, nilL, nilV, oneOr, -List.drop_one]
      simp [chanTake, ho, hl'] <;> try omega
    · have hl' : ¬ 0 < c.list.length := by omega
      simp only [go_sem, qA, qB, qC, qD, qE, qF, qG, qH, hl]
      repeat refine K ?_
      cases hc : c.closed
      · simp only [go_sem, qA, qB, qC, qD, qE, qF, qG, qH, hc]
        repeat refine K ?_
        refine ⟨_, Sub.refl _, ?_⟩; simp [FinS, nilL, nilV, oneOr, -List.drop_one]
        simp [chanTake, ho, hl', hc]
      · simp only [go_sem, qA, qB, qC, qD, qE, qF, qG, qH, hc]
        repeat refine K ?_
        refine ⟨_, Sub.refl _, ?_⟩; simp [FinS, nilL, nilV, oneOr, -List.drop_one]
        simp [chanTake, ho, hl', hc]

theorem implChanClose_ok (c : Chan) (hx : 8 * c.list.length < 2 ^ 46) : CallOk Try.prog num 81 [.agg (chanC .bw c)] [] (.tup [.agg (chanC .own (chanClose c).1), .int .i64 (chanClose c).2]) := by
  refine enter (m := m81) (f := 81) (fn := Try.f248) Try.func248 (by kernel_rfl) rfl c81 rfl (by simp [Try.f248]) (by simp [bnds, bnd, nf_sl, nf_int, nf_bool, nf_str, ints_bnd]) (fun _ _ h => by simp [preH, look] at h) ?_
  unfold m81
  simp only [go_sem, qA, qB, qC, qD, qE, qF, qG, qH]
  repeat refine K ?_
  refine CA [] (copyChan_ok c (by omega)) ?_
  try simp only [go_sem, qA, qB, qC, qD, qE, qF, qG, qH]
  repeat refine K ?_
  cases hc : c.closed
  · simp only [go_sem, qA, qB, qC, qD, qE, qF, qG, qH, hc]
    repeat refine K ?_
    refine CA [] (implChanOk_ok c) ?_
    try simp only [go_sem, qA, qB, qC, qD, qE, qF, qG, qH]
    repeat refine K ?_
    cases ho : chanOk c
    · simp only [go_sem, qA, qB, qC, qD, qE, qF, qG, qH, ho]
      repeat refine K ?_
      refine ⟨_, Sub.refl _, ?_⟩; simp [FinS, nilL, nilV, oneOr, -List.drop_one]
      simp [chanClose, hc, ho]
    · simp only [go_sem, qA, qB, qC, qD, qE, qF, qG, qH, ho]
      repeat refine K ?_
      refine ⟨_, Sub.refl _, ?_⟩; simp [FinS, nilL, nilV, oneOr, -List.drop_one]
      simp [chanClose, hc, ho]
  · simp only [go_sem, qA, qB, qC, qD, qE, qF, qG, qH, hc]
    repeat refine K ?_
    refine ⟨_, Sub.refl _, ?_⟩; simp [FinS, nilL, nilV, oneOr, -List.drop_one]
    simp [chanClose, hc]

theorem specChanSend_ok (c : Chan) (v : Int) (hx : 8 * c.list.length < 2 ^ 46) : CallOk Try.prog num 93 [.agg (chanC .bw c), .int .i64 v] [] (.tup [.agg (chanC .own (chanSend c v).1), .int .i64 (chanSend c v).2]) := by
  refine enter (m := m93) (f := 93) (fn := Try.f282) Try.func282 (by kernel_rfl) rfl c93 rfl (by simp [Try.f282]) (by simp [bnds, bnd, nf_sl, nf_int, nf_bool, nf_str, ints_bnd]) (fun _ _ h => by simp [preH, look] at h) ?_
  unfold m93
  simp only [go_sem, qA, qB, qC, qD, qE, qF, qG, qH]
  repeat refine K ?_
  refine CA [] (l3Copy_ok c (by omega)) ?_
  try simp only [go_sem, qA, qB, qC, qD, qE, qF, qG, qH]
  repeat refine K ?_
  cases hc : c.closed
  · simp only [go_sem, qA, qB, qC, qD, qE, qF, qG, qH, hc]
    repeat refine K ?_
    refine CA [] (specChanOk_ok c) ?_
    try simp only [go_sem, qA, qB, qC, qD, qE, qF, qG, qH]
    repeat refine K ?_
    cases ho : chanOk c
    · simp only [go_sem, qA, qB, qC, qD, qE, qF, qG, qH, ho, hc]
      repeat refine K ?_
      refine ⟨_, Sub.refl _, ?_⟩; simp [FinS, nilL, nilV, oneOr, -List.drop_one]
      simp [chanSend, hc, ho]
    · simp only [go_sem, qA, qB, qC, qD, qE, qF, qG, qH, ho, hc]
      repeat refine K ?_
      by_cases hl : (c.list.length : Int) = c.cap
      · simp only [go_sem, qA, qB, qC, qD, qE, qF, qG, qH, hl]
        repeat refine K ?_
        refine ⟨_, Sub.refl _, ?_⟩; simp [FinS, nilL, nilV, oneOr, -List.drop_one]
        simp [chanSend, hc, ho, hl]
      · simp only [go_sem, qA, qB, qC, qD, qE, qF, qG, qH, hl]
        repeat refine K ?_
        refine ⟨_, Sub.refl _, ?_⟩; simp [FinS, nilL, nilV, oneOr, -List.drop_one]
        simp [chanSend, hc, ho, hl, ints]
  · simp only [go_sem, qA, qB, qC, qD, qE, qF, qG, qH, hc]
    repeat refine K ?_
    refine ⟨_, Sub.refl _, ?_⟩; simp [FinS, nilL, nilV, oneOr, -List.drop_one]
    simp [chanSend, hc]

theorem specChanTake_ok (c : Chan) (hx : 8 * c.list.length < 2 ^ 46) : CallOk Try.prog num 95 [.agg (chanC .bw c)] [] (.tup [.agg (chanC .own (chanTake c).1), .int .i64 (chanTake c).2.1, .int .i64 (chanTake c).2.2]) := by
  refine enter (m := m95) (f := 95) (fn := Try.f284) Try.func284 (by kernel_rfl) rfl c95 rfl (by simp [Try.f284]) (by simp [bnds, bnd, nf_sl, nf_int, nf_bool, nf_str, ints_bnd]) (fun _ _ h => by simp [preH, look] at h) ?_
  unfold m95
  simp only [go_sem, qA, qB, qC, qD, qE, qF, qG, qH]
  repeat refine K ?_
  refine CA [] (l3Copy_ok c (by omega)) ?_
  try simp only [go_sem, qA, qB, qC, qD, qE, qF, qG, qH]
  repeat refine K ?_
  refine CA [] (specChanOk_ok c) ?_
  try simp only [go_sem, qA, qB, qC, qD, qE, qF, qG, qH]
  repeat refine K ?_
  cases ho : chanOk c
  · simp only [go_sem, qA, qB, qC, qD, qE, qF, qG, qH, ho]
    repeat refine K ?_
    refine ⟨_, Sub.refl _, ?_⟩; simp [FinS, nilL, nilV, oneOr, -List.drop_one]
    simp [chanTake, ho]
  · simp only [go_sem, qA, qB, qC, qD, qE, qF, qG, qH, ho]
    repeat refine K ?_
    by_cases hl : (0 : Int) < c.list.length
    · have hl' : 0 < c.list.length := by omega
      simp only [go_sem, qA, qB, qC, qD, qE, qF, qG, qH, hl, ints_getD c.list 0 hl']
      repeat refine K ?_
      refine ⟨_, Sub.refl _, ?_⟩; simp [FinS, nilL, nilV, oneOr, -List.drop_one]
      simp [chanTake, ho, hl'] <;> try omega
    · have hl' : ¬ 0 < c.list.length := by omega
      simp only [go_sem, qA, qB, qC, qD, qE, qF, qG, qH, hl]
      repeat refine K ?_
      cases hc : c.closed
      · simp only [go_sem, qA, qB, qC, qD, qE, qF, qG, qH, hc]
        repeat refine K ?_
        refine ⟨_, Sub.refl _, ?_⟩; simp [FinS, nilL, nilV, oneOr, -List.drop_one]
        simp [chanTake, ho, hl', hc]
      · simp only [go_sem, qA, qB, qC, qD, qE, qF, qG, qH, hc]
        repeat refine K ?_
        refine ⟨_, Sub.refl _, ?_⟩; simp [FinS, nilL, nilV, oneOr, -List.drop_one]
        simp [chanTake, ho, hl', hc]

theorem specChanClose_ok (c : Chan) (hx : 8 * c.list.length < 2 ^ 46) : CallOk Try.prog num 94 [.agg (chanC .bw c)] [] (.tup [.agg (chanC .own (chanClose c).1), .int .i64 (chanClose c).2]) := by
  refine enter (m := m94) (f := 94) (fn := Try.f283) Try.func283 (by kernel_rfl) rfl c94 rfl (by simp [Try.f283]) (by simp [bnds, bnd, nf_sl, nf_int, nf_bool, nf_str, ints_bnd]) (fun _ _ h => by simp [preH, look] at h) ?_
  unfold m94
  simp only [go_sem, qA, qB, qC, qD, qE, qF, qG, qH]
  repeat refine K ?_
  refine CA [] (l3Copy_ok c (by omega)) ?_
  try simp only [go_sem, qA, qB, qC, qD, qE, qF, qG, qH]
  repeat refine K ?_
  cases hc : c.closed
  · simp only [go_sem, qA, qB, qC, qD, qE, qF, qG, qH, hc]
    repeat refine K ?_
    refine CA [] (specChanOk_ok c) ?_
    try simp only [go_sem, qA, qB, qC, qD, qE, qF, qG, qH]
    repeat refine K ?_
    cases ho : chanOk c
    · simp only [go_sem, qA, qB, qC, qD, qE, qF, qG, qH, ho]
      repeat refine K ?_
      refine ⟨_, Sub.refl _, ?_⟩; simp [FinS, nilL, nilV, oneOr, -List.drop_one]
      simp [chanClose, hc, ho]
    · simp only [go_sem, qA, qB, qC, qD, qE, qF, qG, qH, ho]
      repeat refine K ?_
      refine ⟨_, Sub.refl _, ?_⟩; simp [FinS, nilL, nilV, oneOr, -List.drop_one]
      simp [chanClose, hc, ho]
  · simp only [go_sem, qA, qB, qC, qD, qE, qF, qG, qH, hc]
    repeat refine K ?_
    refine ⟨_, Sub.refl _, ?_⟩; simp [FinS, nilL, nilV, oneOr, -List.drop_one]
    simp [chanClose, hc]

set_option maxHeartbeats 4000000 in
theorem implInsOk_ok (x : Ins) (pl ch : Int) (h0 : -(2 ^ 62) ≤ ch) (h1 : ch < 2 ^ 62) (h2 : -(2 ^ 62) ≤ pl) (h3 : pl < 2 ^ 62) : CallOk Try.prog num 88 [.agg (insC x), .int .i64 pl, .int .i64 ch] [] (.bool (insOk x pl ch)) := by
  rw [← insOkF_eq]
  refine enter (m := m88) (f := 88) (fn := Try.f197) Try.func197 (by kernel_rfl) rfl c88 rfl (by simp [Try.f197]) (by simp [bnds, bnd, nf_sl, nf_int, nf_bool, nf_str, ints_bnd]) (fun _ _ h => by simp [preH, look] at h) ?_
  unfold m88
  have hw : IntKind.i64.wrap (ch - 1) = ch - 1 := wrap64 (by omega) (by omega)
  have hw2 : IntKind.i64.wrap (pl - 1) = pl - 1 := wrap64 (by omega) (by omega)
  repeat' (first
    | (simp only [go_sem, qA, qB, qC, qD, qE, qF, qG, qH, hw, hw2])
    | (refine branch_intro (fun hc => ?_) (fun hc => ?_) <;> ((try simp only [Bool.not_eq_true', Bool.not_eq_false', ne_eq, Bool.not_eq_true, Bool.not_eq_false] at hc) <;> (try simp only [hc])))
    | (refine maybe_intro (fun hc => ?_) (fun hc => ?_) <;> ((try simp only [Bool.not_eq_true', Bool.not_eq_false', ne_eq, Bool.not_eq_true, Bool.not_eq_false] at hc) <;> (try simp only [hc])))
    | (refine dmaybe_intro (fun hc => ?_) (fun hc => ?_) <;> ((try simp only [Bool.not_eq_true', Bool.not_eq_false', ne_eq, Bool.not_eq_true, Bool.not_eq_false] at hc) <;> (try simp only [hc])))
    | (refine call_plain (within_ok _ _ _) rfl rfl rfl rfl ?_)
    | (refine dcall_plain (within_ok _ _ _) rfl rfl rfl rfl ?_)
    | (refine call_plain (isReg_ok _) rfl rfl rfl rfl ?_)
    | (refine dcall_plain (isReg_ok _) rfl rfl rfl rfl ?_)
    | (refine call_plain (named_ok _) rfl rfl rfl rfl ?_)
    | (refine dcall_plain (named_ok _) rfl rfl rfl rfl ?_)
    | (refine call_plain (ofChan_ok _) rfl rfl rfl rfl ?_)
    | (refine dcall_plain (ofChan_ok _) rfl rfl rfl rfl ?_)
    | (refine ⟨by first | omega | (simp; done), ?_⟩)
    | fail)
  all_goals (refine ⟨_, Sub.refl _, ?_⟩; simp [FinS, nilL, nilV, oneOr, -List.drop_one])
  all_goals (try (simp_all [insOkF]; done))
  all_goals (try (simp_all [insOkF]; omega))


end Go.Sep
