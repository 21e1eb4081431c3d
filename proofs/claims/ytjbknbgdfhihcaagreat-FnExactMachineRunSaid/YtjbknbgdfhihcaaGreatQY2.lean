/- Contracts of functions. -/
import Derived.Test.YtjbknbgdfhihcaaGreatFns
import Derived.Test.YtjbknbgdfhihcaaGreatQa0
import Derived.Test.YtjbknbgdfhihcaaGreatQd0
import Derived.Test.YtjbknbgdfhihcaaGreatQe0
import Derived.Test.YtjbknbgdfhihcaaGreatQf0
import Derived.Test.YtjbknbgdfhihcaaGreatQj0
import Derived.Test.YtjbknbgdfhihcaaGreatQK0
import Derived.Test.YtjbknbgdfhihcaaGreatQt0
import Derived.Test.YtjbknbgdfhihcaaGreatQv0
import Derived.Test.YtjbknbgdfhihcaaGreatQw0
import Derived.Test.YtjbknbgdfhihcaaGreatQy0
import Derived.Test.YtjbknbgdfhihcaaGreatQz0
import Derived.Test.YtjbknbgdfhihcaaGreatQA0
import Derived.Test.YtjbknbgdfhihcaaGreatQM0
import Derived.Test.YtjbknbgdfhihcaaGreatQN0
import Derived.Test.YtjbknbgdfhihcaaGreatQO0
import Derived.Test.YtjbknbgdfhihcaaGreatQP0
import Derived.Test.YtjbknbgdfhihcaaGreatQQ0
import Derived.Test.YtjbknbgdfhihcaaGreatQT0
import Derived.Test.YtjbknbgdfhihcaaGreatQV0
import Derived.Test.YtjbknbgdfhihcaaGreatQa2
import Derived.Test.YtjbknbgdfhihcaaGreatQf2
import Derived.Test.YtjbknbgdfhihcaaGreatQK2
import Derived.Test.YtjbknbgdfhihcaaGreatQt2
import Derived.Test.YtjbknbgdfhihcaaGreatQA2
import Derived.Test.YtjbknbgdfhihcaaGreatQC2
import Derived.Test.YtjbknbgdfhihcaaGreatQM2
import Derived.Test.YtjbknbgdfhihcaaGreatQN2
import Derived.Test.YtjbknbgdfhihcaaGreatQO2
import Derived.Test.YtjbknbgdfhihcaaGreatQQ2
import Derived.Test.YtjbknbgdfhihcaaGreatQS2
import Derived.Test.YtjbknbgdfhihcaaGreatQT2
import Derived.Test.YtjbknbgdfhihcaaGreatQV2
import Derived.Test.YtjbknbgdfhihcaaGreatQX2
namespace Go.Sep
open Go.Proofs
set_option linter.unusedSimpArgs false
set_option linter.unusedVariables false
set_option maxRecDepth 100000
open Nat renaming reduceAdd → qA, reduceMul → qB, reduceEqDiff → qC, reduceBEq → qD
open Int renaming reduceToNat → qE, reduceEq → qF, reduceLT → qG, reduceLE → qH
open List renaming getD_eq_getElem?_getD → gD

-- S2
def m348 : MFn := ⟨11, [.cell 2 2 true], .seq (xr [xo 1 (.box (.t 0)), xo 2 (.alloc [xz, xz])]) (.seq (xr [xo 3 (.alloc [xz, xz])]) (.seq (xr [xo 4 (.fad 0 (.t 1)), xo 5 (.load 1 false (.t 4)), xo 6 (.fad 0 (.t 3)), ⟨none, .store 1 (.t 6) (.t 5), none⟩]) (.seq (xr [xo 7 (.fad 1 (.t 1)), xo 8 (.load 1 false (.t 7)), xo 9 (.fad 1 (.t 3)), ⟨none, .store 1 (.t 9) (.t 8), none⟩]) (.seq (xr [xo 10 (.load 2 true (.t 3)), ⟨none, .store 2 (.t 2) (.t 10), none⟩]) (.ret)))))⟩
theorem c348 : chkC Tryz.prog num Tryz.f61.ntmps m348.body ((Tryz.f61.body).getD .skip) = true := by kernel_rfl
def m383 : MFn := ⟨135, [.t 4], .seq (xr [xo 2 (.box (.t 0)), xo 4 (.mv (.c (.bool false)))]) (.seq (xr [xo 5 (.mv (xi 1048576))]) (.seq (xr [xo 17 (.load 4 true (.t 2)), xv 18 5, xo 19 (.call 172 [false, false] [.t 17, .t 18]), xv 5 19]) (.seq (.seq (xr [xv 20 5, xo 21 (.bin .lss (.t 20) (xi 0))]) (.cond 21 (.seq (xr [xo 4 (.mv (.c (.bool true)))]) (.ret)) (.skip))) (.seq (xr [xv 22 1, xv 23 5, xo 24 (.call 384 [false, false] [.t 22, .t 23]), xv 5 24]) (.seq (.seq (xr [xv 25 5, xo 26 (.bin .lss (.t 25) (xi 0))]) (.cond 26 (.seq (xr [xo 4 (.mv (.c (.bool true)))]) (.ret)) (.skip))) (.seq (xr [xo 28 (.load 4 true (.t 2)), xo 29 (.call 173 [false] [.t 28]), xv 30 1, xo 31 (.call 385 [false] [.t 30]), xo 32 (.call 386 [false, false] [.t 29, .t 31]), xv 27 32, xo 33 (.ext (.t 27) 0), xo 34 (.ext (.t 27) 1), xo 6 (.alloc [.nil, .nil, .nil, .nil]), ⟨none, .store 4 (.t 6) (.t 33), none⟩, xv 7 34]) (.seq (xr [xo 35 (.load 4 true (.t 2)), xo 36 (.call 173 [false] [.t 35]), xo 8 (.alloc [.nil, .nil, .nil, .nil]), ⟨none, .store 4 (.t 8) (.t 36), none⟩]) (.seq (xr [xv 37 1, xo 38 (.call 385 [false] [.t 37]), xv 9 38]) (.seq (xr [xo 40 (.load 4 true (.t 8)), xv 41 9, xo 42 (.call 387 [false, false] [.t 40, .t 41]), xv 39 42, xo 43 (.ext (.t 39) 0), xo 44 (.ext (.t 39) 1), xo 10 (.alloc [.nil, .nil, .nil, .nil]), ⟨none, .store 4 (.t 10) (.t 43), none⟩, xv 11 44]) (.seq (.seq (xr [xo 45 (.load 4 true (.t 10)), xo 46 (.load 4 true (.t 6)), xo 47 (.call 176 [false, false] [.t 45, .t 46]), xo 48 (.un .«not» (.t 47)), xv 49 48, xg 50 (.mv (.t 11)) 49 false, xg 51 (.mv (.t 7)) 49 false, xg 52 (.call 8 [false, false] [.t 50, .t 51]) 49 false, xg 53 (.un .«not» (.t 52)) 49 false, xo 54 (.pick (.t 49) (.c (.bool true)) (.t 53))]) (.cond 54 (.seq (xr [xo 4 (.mv (.c (.bool false)))]) (.ret)) (.skip))) (.seq (.seq (.dreg (.take 0 (xo 55 (.load 4 true (.t 8))) (.only 1 [] (xo 56 (.load 4 true (.t 2))) (.only 2 [] (xo 57 (.call 173 [false] [.t 56])) (.only 3 [0] (xo 58 (.call 176 [false, false] [.t 55, .t 57])) (.only 4 [3, 0] (xo 59 (.un .«not» (.t 58))) (.done))))))) (.cond 59 (.seq (xr [xo 4 (.mv (.c (.bool false)))]) (.ret)) (.skip))) (.seq (.seq (xr [xv 60 9, xv 61 1, xo 62 (.call 385 [false] [.t 61]), xo 63 (.call 388 [false, false] [.t 60, .t 62]), xo 64 (.un .«not» (.t 63))]) (.cond 64 (.seq (xr [xo 4 (.mv (.c (.bool false)))]) (.ret)) (.skip))) (.seq (xr [xo 12 (.mv (xi 1))]) (.seq (xr [xo 65 (.load 4 true (.t 8)), xv 66 12, xo 67 (.call 351 [true, false] [.t 65, .t 66]), xv 12 67]) (.seq (xr [xv 68 9, xv 69 12, xo 70 (.call 389 [true, false] [.t 68, .t 69]), xv 12 70]) (.seq (.seq (xr [xv 71 12, xo 72 (.bin .lss (.t 71) (xi 0)), xv 73 72, xg 74 (.load 4 true (.t 10)) 73 false, xg 75 (.load 4 true (.t 6)) 73 false, xg 76 (.call 176 [false, false] [.t 74, .t 75]) 73 false, xg 77 (.un .«not» (.t 76)) 73 false, xo 78 (.pick (.t 73) (.c (.bool true)) (.t 77)), xv 79 78, xg 80 (.mv (.t 11)) 79 false, xg 81 (.mv (.t 7)) 79 false, xg 82 (.call 8 [false, false] [.t 80, .t 81]) 79 false, xg 83 (.un .«not» (.t 82)) 79 false, xo 84 (.pick (.t 79) (.c (.bool true)) (.t 83))]) (.cond 84 (.seq (xr [xo 4 (.mv (.c (.bool false)))]) (.ret)) (.skip))) (.seq (xr [xo 13 (.mv (xi 1))]) (.seq (xr [xo 85 (.load 4 true (.t 10)), xv 86 13, xo 87 (.call 351 [true, false] [.t 85, .t 86]), xv 13 87]) (.seq (xr [xv 88 11, xv 89 13, xo 90 (.call 16 [true, false] [.t 88, .t 89]), xv 13 90]) (.seq (xr [xo 14 (.mv (xi 1))]) (.seq (xr [xo 91 (.load 4 true (.t 10)), xv 92 14, xo 93 (.call 352 [false, false] [.t 91, .t 92]), xv 14 93]) (.seq (.seq (xr [xv 94 14, xo 95 (.bin .lss (.t 94) (xi 0))]) (.cond 95 (.seq (xr [xo 4 (.mv (.c (.bool false)))]) (.ret)) (.skip))) (.seq (xr [xv 96 11, xv 97 14, xo 98 (.call 17 [false, false] [.t 96, .t 97]), xv 14 98]) (.seq (.seq (xr [xv 99 14, xo 100 (.bin .lss (.t 99) (xi 0))]) (.cond 100 (.seq (xr [xo 4 (.mv (.c (.bool false)))]) (.ret)) (.skip))) (.seq (.seq (xr [xv 101 14, xv 102 13, xo 103 (.bin .neq (.t 101) (.t 102))]) (.cond 103 (.seq (xr [xo 4 (.mv (.c (.bool false)))]) (.ret)) (.skip))) (.seq (xr [xo 105 (.load 4 true (.t 2)), xo 106 (.call 173 [false] [.t 105]), xv 107 1, xo 108 (.call 385 [false] [.t 107]), xo 109 (.call 387 [false, false] [.t 106, .t 108]), xv 104 109, xo 110 (.ext (.t 104) 0), xo 111 (.ext (.t 104) 1), xo 15 (.alloc [.nil, .nil, .nil, .nil]), ⟨none, .store 4 (.t 15) (.t 110), none⟩, xv 16 111]) (.seq (.seq (xr [xo 112 (.load 4 true (.t 15)), xo 113 (.load 4 true (.t 6)), xo 114 (.call 176 [false, false] [.t 112, .t 113]), xo 115 (.un .«not» (.t 114)), xv 116 115, xg 117 (.mv (.t 16)) 116 false, xg 118 (.mv (.t 7)) 116 false, xg 119 (.call 8 [false, false] [.t 117, .t 118]) 116 false, xg 120 (.un .«not» (.t 119)) 116 false, xo 121 (.pick (.t 116) (.c (.bool true)) (.t 120))]) (.cond 121 (.seq (xr [xo 4 (.mv (.c (.bool false)))]) (.ret)) (.skip))) (.seq (xr [xo 14 (.mv (xi 1))]) (.seq (xr [xo 122 (.load 4 true (.t 10)), xv 123 14, xo 124 (.call 352 [false, false] [.t 122, .t 123]), xv 14 124]) (.seq (.seq (xr [xv 125 14, xo 126 (.bin .lss (.t 125) (xi 0))]) (.cond 126 (.seq (xr [xo 4 (.mv (.c (.bool false)))]) (.ret)) (.skip))) (.seq (xr [xv 127 11, xv 128 14, xo 129 (.call 17 [false, false] [.t 127, .t 128]), xv 14 129]) (.seq (.seq (xr [xv 130 14, xo 131 (.bin .lss (.t 130) (xi 0))]) (.cond 131 (.seq (xr [xo 4 (.mv (.c (.bool false)))]) (.ret)) (.skip))) (.seq (.seq (xr [xv 132 14, xv 133 13, xo 134 (.bin .neq (.t 132) (.t 133))]) (.cond 134 (.seq (xr [xo 4 (.mv (.c (.bool false)))]) (.ret)) (.skip))) (.seq (xr [xo 4 (.mv (.c (.bool true)))]) (.ret)))))))))))))))))))))))))))))))))))⟩
theorem c383 : chkC Tryz.prog num Tryz.f3.ntmps m383.body ((Tryz.f3.body).getD .skip) = true := by kernel_rfl
def m384 : MFn := ⟨12, [.t 4], .seq (xr [xo 4 (.mv (xi 0))]) (.seq (xr [xv 5 1, xv 6 0, xo 7 (.len (.t 6)), xo 8 (.bin .sub (.t 5) (.t 7)), xv 1 8]) (.seq (.seq (xr [xv 9 1, xo 10 (.bin .lss (.t 9) (xi 0))]) (.cond 10 (.seq (xr [xo 4 (.mv (.c (.int .i64 (-1))))]) (.ret)) (.skip))) (.seq (xr [xv 11 1, xv 4 11]) (.ret))))⟩
theorem c384 : chkC Tryz.prog num Tryz.f13.ntmps m384.body ((Tryz.f13.body).getD .skip) = true := by kernel_rfl
def m385 : MFn := ⟨23, [.t 2], .seq (xr [xo 2 (.mv (.c (.nil)))]) (.seq (xr [xv 5 0, xo 6 (.len (.t 5)), xo 7 (.mkS [xz, xz] 16 (.t 6) (.t 6)), xv 3 7]) (.seq (.seq (xr [xo 4 (.mv (xi 0))]) (.blk 0 (.loop (.seq (.seq (xr [xv 8 4, xv 9 0, xo 10 (.len (.t 9)), xo 11 (.bin .lss (.t 8) (.t 10))]) (.cond 11 (.skip) (.exit 0))) (.seq (.blk 1 (xr [xv 14 3, xv 15 4, xv 16 0, xv 17 4, xo 18 (.iad 2 (.t 16) (.t 17)), xo 19 (.load 2 true (.t 18)), xo 20 (.call 348 [false] [.t 19]), xo 21 (.iad 2 (.t 14) (.t 15)), ⟨none, .store 2 (.t 21) (.t 20), none⟩])) (xr [xv 12 4, xo 13 (.bin .add (.t 12) (xi 1)), xv 4 13])))))) (.seq (xr [xv 22 3, xv 2 22]) (.ret))))⟩
theorem c385 : chkC Tryz.prog num Tryz.f16.ntmps m385.body ((Tryz.f16.body).getD .skip) = true := by kernel_rfl
def m388 : MFn := ⟨27, [.t 4], .seq (xr [xo 4 (.mv (.c (.bool false)))]) (.seq (.seq (xr [xv 6 0, xo 7 (.len (.t 6)), xv 8 1, xo 9 (.len (.t 8)), xo 10 (.bin .neq (.t 7) (.t 9))]) (.cond 10 (.seq (xr [xo 4 (.mv (.c (.bool false)))]) (.ret)) (.skip))) (.seq (.seq (xr [xo 5 (.mv (xi 0))]) (.blk 0 (.loop (.seq (.seq (xr [xv 11 5, xv 12 0, xo 13 (.len (.t 12)), xo 14 (.bin .lss (.t 11) (.t 13))]) (.cond 14 (.skip) (.exit 0))) (.seq (.blk 1 (.seq (.dreg (.take 0 (xv 17 0) (.take 1 (xv 18 5) (.take 2 (xo 19 (.iad 2 (.t 17) (.t 18))) (.take 3 (xo 20 (.load 2 true (.t 19))) (.take 4 (xv 21 1) (.only 5 [] (xv 22 5) (.only 6 [4] (xo 23 (.iad 2 (.t 21) (.t 22))) (.only 7 [6, 4] (xo 24 (.load 2 true (.t 23))) (.only 8 [3, 7, 2, 6, 0, 1, 4] (xo 25 (.call 414 [false, false] [.t 20, .t 24])) (.only 9 [8, 3, 7, 2, 6, 0, 1, 4] (xo 26 (.un .«not» (.t 25))) (.done)))))))))))) (.cond 26 (.seq (xr [xo 4 (.mv (.c (.bool false)))]) (.ret)) (.skip)))) (xr [xv 15 5, xo 16 (.bin .add (.t 15) (xi 1)), xv 5 16])))))) (.seq (xr [xo 4 (.mv (.c (.bool true)))]) (.ret))))⟩
theorem c388 : chkC Tryz.prog num Tryz.f20.ntmps m388.body ((Tryz.f20.body).getD .skip) = true := by kernel_rfl
def m389 : MFn := ⟨27, [.t 4], .seq (xr [xo 4 (.mv (xi 0))]) (.seq (.seq (xr [xo 5 (.mv (xi 0))]) (.blk 0 (.loop (.seq (.seq (xr [xv 6 5, xv 7 0, xo 8 (.len (.t 7)), xo 9 (.bin .lss (.t 6) (.t 8))]) (.cond 9 (.skip) (.exit 0))) (.seq (.blk 1 (.seq (xr [xv 12 0, xv 13 5, xv 14 1, xo 15 (.iad 2 (.t 12) (.t 13)), xo 16 (.fad 0 (.t 15)), ⟨none, .store 1 (.t 16) (.t 14), none⟩]) (.seq (xr [xv 17 1, xo 18 (.bin .add (.t 17) (xi 1)), xv 1 18]) (.seq (xr [xv 19 0, xv 20 5, xv 21 1, xo 22 (.iad 2 (.t 19) (.t 20)), xo 23 (.fad 1 (.t 22)), ⟨none, .store 1 (.t 23) (.t 21), none⟩]) (xr [xv 24 1, xo 25 (.bin .add (.t 24) (xi 1)), xv 1 25]))))) (xr [xv 10 5, xo 11 (.bin .add (.t 10) (xi 1)), xv 5 11])))))) (.seq (xr [xv 26 1, xv 4 26]) (.ret)))⟩
theorem c389 : chkC Tryz.prog num Tryz.f22.ntmps m389.body ((Tryz.f22.body).getD .skip) = true := by kernel_rfl
def m414 : MFn := ⟨15, [.t 4], .seq (xr [xo 2 (.box (.t 0)), xo 3 (.box (.t 1)), xo 4 (.mv (.c (.bool false)))]) (.seq (.seq (xr [xo 5 (.fad 0 (.t 2)), xo 6 (.load 1 false (.t 5)), xo 7 (.fad 0 (.t 3)), xo 8 (.load 1 false (.t 7)), xo 9 (.bin .neq (.t 6) (.t 8))]) (.cond 9 (.seq (xr [xo 4 (.mv (.c (.bool false)))]) (.ret)) (.skip))) (.seq (.seq (xr [xo 10 (.fad 1 (.t 2)), xo 11 (.load 1 false (.t 10)), xo 12 (.fad 1 (.t 3)), xo 13 (.load 1 false (.t 12)), xo 14 (.bin .neq (.t 11) (.t 13))]) (.cond 14 (.seq (xr [xo 4 (.mv (.c (.bool false)))]) (.ret)) (.skip))) (.seq (xr [xo 4 (.mv (.c (.bool true)))]) (.ret))))⟩
theorem c414 : chkC Tryz.prog num Tryz.f69.ntmps m414.body ((Tryz.f69.body).getD .skip) = true := by kernel_rfl
theorem toPick_ok (x : Pick) : CallOk Tryz.prog num 348 [.agg (pickC x)] [] (.agg (pickC x)) := by
  refine enter (m := m348) (f := 348) (fn := Tryz.f61) Tryz.func61 (by kernel_rfl) rfl c348 rfl (by simp [Tryz.f61]) (by simp [bnds, bnd, nf_sl, nf_int, nf_bool, nf_str, ints_bnd]) (fun _ _ h => by simp [preH, look] at h) ?_
  unfold m348
  simp only [go_sem, qA, qB, qC, qD, qE, qF, qG, qH]
  repeat refine K ?_
  refine ⟨_, Sub.refl _, FinS_one ?_⟩; simp [-List.drop_one]
theorem toPickS_ok (l : List Pick) (hl : 64 * l.length ≤ 2 ^ 47) : CallOk Tryz.prog num 385 [.sl .bw 2 (pcks l)] [] (.sl .own 2 (pcks l)) := by
  refine enter (m := m385) (f := 385) (fn := Tryz.f16) Tryz.func16 (by kernel_rfl) rfl c385 rfl (by simp [Tryz.f16]) (by simp [bnds, bnd, nf_sl, nf_int, nf_bool, nf_str, ints_bnd]) (fun _ _ h => by simp [preH, look] at h) ?_
  unfold m385
  simp only [go_sem, qA, qB, qC, qD, qE, qF, qG, qH]
  repeat refine K ?_
  refine loop_intro (ι := Nat) (fun i => .mk [(0, .sl .bw 2 (pcks l)), (3, .ns 10 0 l.length), (4, .int .i64 i)] [(10, 2, pcks (l.take i ++ List.replicate (l.length - i) ⟨0, 0⟩))] 11) (fun i => i ≤ l.length) (fun i => l.length - i) 0 (by simp) ?_ ?_
  · refine Sub.shape [] id (by omega) ?_ ?_ ?_ ?_ <;> simp [ints_rep]
    left
    exact pcks_rep _ _ _
  · intro i hi
    simp only [go_sem, qA, qB, qC, qD, qE, qF, qG, qH]
    refine branch_intro (fun hc => ?_) (fun hc => ?_)
    · simp only [decide_eq_true_eq] at hc
      have hl' : i < l.length := by omega
      have hm := fill_length l (⟨0, 0⟩ : Pick) i hi
      simp only [go_sem, qA, qB, qC, qD, qE, qF, qG, qH, pcks_getD l i hl', hm]
      repeat refine K ?_
      refine CA [] (toPick_ok (l.getD i default) ) ?_
      try simp only [go_sem, qA, qB, qC, qD, qE, qF, qG, qH]
      repeat refine K ?_
      have hs := fill_set l default (⟨0, 0⟩ : Pick) i hl'

      have hs' : (l.take i ++ List.replicate (l.length - i) (⟨0, 0⟩ : Pick)).set i ⟨(l.getD i default).who, (l.getD i default).late⟩ = l.take (i + 1) ++ List.replicate (l.length - (i + 1)) ⟨0, 0⟩ := hs
      try simp only [go_sem, qA, qB, qC, qD, qE, qF, qG, qH, pcks_getD _ i (hm ▸ hl'), hm, hs', wrap_succ (i := i) (by omega)]
      repeat refine K ?_
      refine back_intro (i + 1) (Sub.shape [] id (by omega) ?_ ?_ ?_ ?_) ?_ ?_
      any_goals (first | omega | (simp [ints_rep]; done))
    · simp only [decide_eq_false_iff_not] at hc
      have : i = l.length := by omega
      subst this
      simp only [go_sem, qA, qB, qC, qD, qE, qF, qG, qH]
      repeat refine K ?_
      refine ⟨_, Sub.refl _, ?_⟩; simp [FinS, nilL, nilV, oneOr, -List.drop_one]
theorem szPickS_ok (xs : List Pick) (n : Int) (hx : xs.length < 2 ^ 63) (h0 : 0 ≤ n) (h1 : n ≤ 2 ^ 62) : CallOk Tryz.prog num 384 [.sl .bw 2 (pcks xs), .int .i64 n] [] (.int .i64 (szL xs.length n)) := by
  refine enter (m := m384) (f := 384) (fn := Tryz.f13) Tryz.func13 (by kernel_rfl) rfl c384 rfl (by simp [Tryz.f13]) (by simp [bnds, bnd, nf_sl, nf_int, nf_bool, nf_str, ints_bnd]) (fun _ _ h => by simp [preH, look] at h) ?_
  unfold m384
  have hw : IntKind.i64.wrap (n - xs.length) = n - xs.length := wrap64 (by omega) (by omega)
  simp only [go_sem, qA, qB, qC, qD, qE, qF, qG, qH, hw]
  repeat refine K ?_
  refine branch_intro (fun hc => ?_) (fun hc => ?_)
  · simp only [go_sem, qA, qB, qC, qD, qE, qF, qG, qH]
    repeat refine K ?_
    refine ⟨_, Sub.refl _, ?_⟩; simp [FinS, nilL, nilV, oneOr, -List.drop_one]
    simp only [decide_eq_true_eq] at hc
    simp [szL, hc]
  · simp only [go_sem, qA, qB, qC, qD, qE, qF, qG, qH]
    repeat refine K ?_
    refine ⟨_, Sub.refl _, ?_⟩; simp [FinS, nilL, nilV, oneOr, -List.drop_one]
    simp only [decide_eq_false_iff_not] at hc
    simp [szL, hc]
theorem eqPick_ok (x y : Pick) : CallOk Tryz.prog num 414 [.agg (pickC x), .agg (pickC y)] [] (.bool (decide (x = y))) := by
  refine enter (m := m414) (f := 414) (fn := Tryz.f69) Tryz.func69 (by kernel_rfl) rfl c414 rfl (by simp [Tryz.f69]) (by simp [bnds, bnd, nf_sl, nf_int, nf_bool, nf_str, ints_bnd]) (fun _ _ h => by simp [preH, look] at h) ?_
  unfold m414
  cases x
  cases y
  repeat' (first
    | (simp only [go_sem, qA, qB, qC, qD, qE, qF, qG, qH])
    | (refine branch_intro (fun hc => ?_) (fun hc => ?_) <;> ((try simp only [Bool.not_eq_true', Bool.not_eq_false', ne_eq, Bool.not_eq_true, Bool.not_eq_false] at hc) <;> (try simp only [hc])))
    | (refine maybe_intro (fun hc => ?_) (fun hc => ?_) <;> ((try simp only [Bool.not_eq_true', Bool.not_eq_false', ne_eq, Bool.not_eq_true, Bool.not_eq_false] at hc) <;> (try simp only [hc])))
    | (refine dmaybe_intro (fun hc => ?_) (fun hc => ?_) <;> ((try simp only [Bool.not_eq_true', Bool.not_eq_false', ne_eq, Bool.not_eq_true, Bool.not_eq_false] at hc) <;> (try simp only [hc])))
    | (refine ⟨by first | omega | (simp; done), ?_⟩)
    | fail)
  all_goals (refine ⟨_, Sub.refl _, ?_⟩; simp [FinS, nilL, nilV, oneOr, -List.drop_one])
  all_goals (try (simp_all; done))
theorem eqPickS_ok (xs ys : List Pick) (hx : xs.length ≤ 2 ^ 47)  : CallOk Tryz.prog num 388 [.sl .bw 2 (pcks xs), .sl .bw 2 (pcks ys)] [] (.bool (decide (xs = ys))) := by
  refine enter (m := m388) (f := 388) (fn := Tryz.f20) Tryz.func20 (by kernel_rfl) rfl c388 rfl (by simp [Tryz.f20]) (by simp [bnds, bnd, nf_sl, nf_int, nf_bool, nf_str, ints_bnd]) (fun _ _ h => by simp [preH, look] at h) ?_
  unfold m388
  simp only [go_sem, qA, qB, qC, qD, qE, qF, qG, qH]
  repeat refine K ?_
  refine branch_intro (fun hc => ?_) (fun hc => ?_)
  · have hne : xs ≠ ys := fun he => by subst he; simp at hc
    simp only [go_sem, qA, qB, qC, qD, qE, qF, qG, qH]
    repeat refine K ?_
    refine ⟨_, Sub.refl _, ?_⟩; simp [FinS, nilL, nilV, oneOr, -List.drop_one]
    exact hne
  · have hl : xs.length = ys.length := by simp at hc; omega
    simp only [go_sem, qA, qB, qC, qD, qE, qF, qG, qH]
    repeat refine K ?_
    refine loop_intro (ι := Nat) (fun i => .mk [(0, .sl .bw 2 (pcks xs)), (1, .sl .bw 2 (pcks ys)), (5, .int .i64 i)] [] 10) (fun i => i ≤ xs.length ∧ xs.take i = ys.take i) (fun i => xs.length - i) 0 (by simp) ?_ ?_
    · refine Sub.shape [] id (by omega) ?_ ?_ ?_ ?_ <;> simp [ints_rep]
    · rintro i ⟨hi, hp⟩
      simp only [go_sem, qA, qB, qC, qD, qE, qF, qG, qH]
      repeat refine K ?_
      refine branch_intro (fun hc => ?_) (fun hc => ?_)
      · simp only [decide_eq_true_eq] at hc
        have hil : i < xs.length := by omega
        have hjl : i < ys.length := by omega
        simp only [go_sem, qA, qB, qC, qD, qE, qF, qG, qH, pcks_getD xs i hil, pcks_getD ys i hjl]
        repeat refine K ?_
        refine DA [] (eqPick_ok (xs.getD i default) (ys.getD i default) ) ?_
        try simp only [go_sem, qA, qB, qC, qD, qE, qF, qG, qH]
        repeat refine K ?_
        by_cases he : xs.getD i default = ys.getD i default
        · simp only [go_sem, qA, qB, qC, qD, qE, qF, qG, qH, he, wrap_succ (i := i) (by omega)]
          repeat refine K ?_
          refine back_intro (i + 1) (Sub.shape [] id (by omega) ?_ ?_ ?_ ?_) ?_ ?_
          any_goals (first | omega | (simp [ints_rep]; done))
          refine ⟨hil, ?_⟩
          rw [List.take_succ_eq_append_getElem hil, List.take_succ_eq_append_getElem hjl, hp]
          have he' : xs[i] = ys[i] := by simpa [List.getD_eq_getElem?_getD, hil, hjl] using he
          rw [he']
        · simp only [go_sem, qA, qB, qC, qD, qE, qF, qG, qH, he]
          repeat refine K ?_
          refine ⟨_, Sub.refl _, ?_⟩; simp [FinS, nilL, nilV, oneOr, -List.drop_one]
          intro h
          subst h
          exact he rfl
      · simp only [decide_eq_false_iff_not] at hc
        have he : xs = ys := by
          have h1 : i = xs.length := by omega
          rw [h1, List.take_length, hl, List.take_length] at hp
          exact hp
        simp only [go_sem, qA, qB, qC, qD, qE, qF, qG, qH]
        repeat refine K ?_
        refine ⟨_, Sub.refl _, ?_⟩; simp [FinS, nilL, nilV, oneOr, -List.drop_one]
        exact he
def wPick (_x : Pick) : Nat := 2
def markPickF (k : Int) (_x : Pick) : Pick := ⟨k, k + 1⟩
theorem markPickS_ok (l : List Pick) (k : Int) (h0 : 0 ≤ k) (h1 : k + tots wPick l < 2 ^ 59) (h2 : l.length < 2 ^ 59) : CallOk Tryz.prog num 389 [.ns 0 0 l.length, .int .i64 k] [(0, some (2, pcks l), some (2, pcks (mks wPick markPickF k l)))] (.int .i64 (k + tots wPick l)) := by
  refine enter (m := m389) (f := 389) (fn := Tryz.f22) Tryz.func22 (by kernel_rfl) rfl c389 rfl (by simp [Tryz.f22]) (by simp [bnds, bnd, nf_sl, nf_int, nf_bool, nf_str, ints_bnd]) (by first | (simp [preH, hb_nil, hb_cons, ints_bnd]; done) | exact hb_cons _ _ _ _ ((hb_nil _).2 trivial) (by decide) (by simp [ints_bnd, bndr, bnds, bnd])) ?_
  unfold m389
  simp only [go_sem, qA, qB, qC, qD, qE, qF, qG, qH]
  repeat refine K ?_
  refine loop_intro (ι := Nat) (fun i => .mk [(0, .ns 0 0 l.length), (1, .int .i64 (k + tots wPick (l.take i))), (5, .int .i64 i)] [(0, 2, pcks (mks wPick markPickF k (l.take i) ++ l.drop i))] 10) (fun i => i ≤ l.length) (fun i => l.length - i) 0 (by omega) ?_ ?_
  · refine Sub.shape [] id (by omega) ?_ ?_ ?_ ?_ <;> simp [ints_rep]
    all_goals simp [mks, tots]
  · intro i hi
    have hm : (mks wPick markPickF k (l.take i) ++ l.drop i).length = l.length := by simp; omega
    simp only [go_sem, qA, qB, qC, qD, qE, qF, qG, qH, hm]
    refine branch_intro (fun hc => ?_) (fun hc => ?_)
    · simp only [decide_eq_true_eq] at hc
      have hl' : i < l.length := by omega
      have ht := tots_take wPick l default i hl'
      have htl := tots_take_le wPick l (i + 1)
      have hw : wPick (l.getD i default) = 2 := rfl
      have gb : (pcks (mks wPick markPickF k (l.take i) ++ l.drop i)).getD i [] = [.int .i64 (l.getD i default).who, .int .i64 (l.getD i default).late] := by
        rw [pcks_getD _ i (hm ▸ hl'), mks_getD _ _ default l k i hl']
      have gw : ∀ r, ((pcks (mks wPick markPickF k (l.take i) ++ l.drop i)).set i r).getD i [] = r := fun r => getD_set_self _ _ _ _ (by rw [pcks_length, hm]; exact hl')
      have gi : ∀ a0 a1, (pcks ((mks wPick markPickF k (l.take i) ++ l.drop i).set i ⟨a0, a1⟩)).getD i [] = [.int .i64 a0, .int .i64 a1] := fun a0 a1 => by
        rw [pcks_getD _ i (by rw [List.length_set, hm]; exact hl'), getD_set_self _ _ _ _ (by rw [hm]; exact hl')]
      have q0 : IntKind.i64.wrap (k + tots wPick (l.take i) + 1) = k + tots wPick (l.take i) + 1 := wrap64 (by omega) (by omega)
      have q1 : IntKind.i64.wrap (k + tots wPick (l.take i) + 1 + 1) = k + (tots wPick (l.take (i + 1)) : Int) := by rw [wrap64 (by omega) (by omega)]; omega
      have hs := mks_set wPick markPickF default l k i hl'
      simp only [markPickF] at hs
      simp only [go_sem, qA, qB, qC, qD, qE, qF, qG, qH, gb, gw, hm, List.length_set, gi, q0, q1, hs, wrap_succ (i := i) (by omega)]
      repeat refine K ?_
      refine back_intro (i + 1) (Sub.shape [] id (by omega) ?_ ?_ ?_ ?_) ?_ ?_
      any_goals (first | omega | (simp [ints_rep]; done))
    · simp only [decide_eq_false_iff_not] at hc
      have he : l.take i = l := List.take_of_length_le (by omega)
      have hd : l.drop i = [] := List.drop_eq_nil_of_le (by omega)
      simp only [go_sem, qA, qB, qC, qD, qE, qF, qG, qH, he, hd]
      repeat refine K ?_
      refine ⟨_, Sub.refl _, ?_⟩; simp [FinS, nilL, nilV, oneOr, -List.drop_one]


-- S2
theorem machRun_sz {m : Machine} {l : List Pick} {n : Nat} (h : zMachine m ≤ n) : zMachine (machRun m l).1 ≤ max n 4000000 ∧ (machRun m l).2.length ≤ l.length := by
  unfold machRun
  split
  · exact ⟨by simp only; omega, by simp⟩
  · rename_i hc
    simp only [Bool.or_eq_true, Bool.not_eq_true', not_or, Bool.not_eq_false] at hc
    have := machineOk_z (mrun_ok l hc.2)
    exact ⟨by simp only; omega, by simp only [mcodes_length]; omega⟩
set_option maxHeartbeats 8000000 in
theorem exactMachineRun_ok (m : Machine) (l : List Pick) (hm0 : LongM m) (hl0 : l.length < 2 ^ 63 ∧ ∀ x ∈ l, pkOk x) : CallOk Tryz.prog num 383 [.agg (machineC .bw m), .sl .bw 2 (pcks l)] [] (.bool true) := by
  refine enter (m := m383) (f := 383) (fn := Tryz.f3) Tryz.func3 (by kernel_rfl) rfl c383 rfl (by simp [Tryz.f3]) (by simp [bnds, bnd, nf_sl, nf_int, nf_bool, nf_str, ints_bnd]) (fun _ _ h => by simp [preH, look] at h) ?_
  unfold m383
  simp only [go_sem, qA, qB, qC, qD, qE, qF, qG, qH]
  repeat refine K ?_
  refine CA [] (szMachine_ok m 1048576 hm0 (by omega) (by omega)) ?_
  try simp only [go_sem, qA, qB, qC, qD, qE, qF, qG, qH]
  repeat refine K ?_
  have l2 := szL_le (k := zMachine m) (n := 1048576) (by omega)
  refine branch_intro (fun hc2 => ?_) (fun hc2 => ?_)
  · simp only [go_sem, qA, qB, qC, qD, qE, qF, qG, qH]
    repeat refine K ?_
    refine ⟨_, Sub.refl _, ?_⟩; simp [FinS, nilL, nilV, oneOr, -List.drop_one]
  simp only [decide_eq_false_iff_not] at hc2
  have hz : zMachine m ≤ 1048576 := by have := szL_ge hc2 (by omega); omega
  have hm := smallM_of hz (by omega)
  generalize szL (zMachine m) 1048576 = n2 at *
  simp only [go_sem, qA, qB, qC, qD, qE, qF, qG, qH]
  repeat refine K ?_
  refine CA [] (szPickS_ok l n2 hl0.1 (by omega) (by omega)) ?_
  try simp only [go_sem, qA, qB, qC, qD, qE, qF, qG, qH]
  repeat refine K ?_
  refine branch_intro (fun hc3 => ?_) (fun hc3 => ?_)
  · simp only [go_sem, qA, qB, qC, qD, qE, qF, qG, qH]
    repeat refine K ?_
    refine ⟨_, Sub.refl _, ?_⟩; simp [FinS, nilL, nilV, oneOr, -List.drop_one]
  simp only [decide_eq_false_iff_not] at hc3
  have hl : l.length ≤ 1048576 := by have := szL_ge hc3 (by omega); omega
  clear hc2 hc3 hm0 l2
  have tm := toMachine_ok m hm
  have tk := toPickS_ok l (by omega)
  have cs := specMachineRun_ok m l hm (by omega) hl0.2
  have ci := implMachineRun_ok m l hm (by omega) hl0.2
  obtain ⟨wz, wl⟩ := machRun_sz (l := l) hz
  generalize machRun m l = w at *
  have hw := smallM_of (m := w.1) (n := 4000000) (by omega) (by omega)
  have ww := wMachine_z w.1
  have wm := wMachine_z m
  have wp : tots wPick l = 2 * l.length := tots_const 2 l
  have ew := eqMachine_ok w.1 w.1 hw
  have ei := eqIntS_ok w.2 w.2 (by omega)
  have em := eqMachine_ok m m hm
  have ek := eqPickS_ok l l (by omega)
  have d1 : decide ((1 : Int) + wMachine w.1 < 0) = false := by simp; omega
  have d3 : decide ((1 : Int) + wMachine w.1 + w.2.length < 0) = false := by simp; omega
  have d2 : decide ((1 : Int) + wMachine m + tots wPick l < 0) = false := by simp; omega
  simp only [go_sem, qA, qB, qC, qD, qE, qF, qG, qH]
  repeat refine K ?_
  refine CA [] (tm) ?_
  try simp only [go_sem, qA, qB, qC, qD, qE, qF, qG, qH]
  repeat refine K ?_
  try simp only [go_sem, qA, qB, qC, qD, qE, qF, qG, qH]
  repeat refine K ?_
  refine CA [] (tk) ?_
  try simp only [go_sem, qA, qB, qC, qD, qE, qF, qG, qH]
  repeat refine K ?_
  try simp only [go_sem, qA, qB, qC, qD, qE, qF, qG, qH]
  repeat refine K ?_
  refine CA [] (cs) ?_
  try simp only [go_sem, qA, qB, qC, qD, qE, qF, qG, qH]
  repeat refine K ?_
  try simp only [go_sem, qA, qB, qC, qD, qE, qF, qG, qH]
  repeat refine K ?_
  refine CA [] (tm) ?_
  try simp only [go_sem, qA, qB, qC, qD, qE, qF, qG, qH]
  repeat refine K ?_
  try simp only [go_sem, qA, qB, qC, qD, qE, qF, qG, qH]
  repeat refine K ?_
  refine CA [] (tk) ?_
  try simp only [go_sem, qA, qB, qC, qD, qE, qF, qG, qH]
  repeat refine K ?_
  try simp only [go_sem, qA, qB, qC, qD, qE, qF, qG, qH]
  repeat refine K ?_
  refine CA [] (ci) ?_
  try simp only [go_sem, qA, qB, qC, qD, qE, qF, qG, qH]
  repeat refine K ?_
  try simp only [go_sem, qA, qB, qC, qD, qE, qF, qG, qH]
  repeat refine K ?_
  refine CA [] (ew) ?_
  try simp only [go_sem, qA, qB, qC, qD, qE, qF, qG, qH]
  repeat refine K ?_
  try simp only [go_sem, qA, qB, qC, qD, qE, qF, qG, qH]
  repeat refine K ?_
  refine CA [] (ei) ?_
  try simp only [go_sem, qA, qB, qC, qD, qE, qF, qG, qH]
  repeat refine K ?_
  try simp only [go_sem, qA, qB, qC, qD, qE, qF, qG, qH]
  repeat refine K ?_
  refine DA [] (tm) ?_
  try simp only [go_sem, qA, qB, qC, qD, qE, qF, qG, qH]
  repeat refine K ?_
  refine DA [] (em) ?_
  try simp only [go_sem, qA, qB, qC, qD, qE, qF, qG, qH]
  repeat refine K ?_
  try simp only [go_sem, qA, qB, qC, qD, qE, qF, qG, qH]
  repeat refine K ?_
  refine CA [] (tk) ?_
  try simp only [go_sem, qA, qB, qC, qD, qE, qF, qG, qH]
  repeat refine K ?_
  refine CA [] (ek) ?_
  try simp only [go_sem, qA, qB, qC, qD, qE, qF, qG, qH]
  repeat refine K ?_
  try simp only [go_sem, qA, qB, qC, qD, qE, qF, qG, qH]
  repeat refine K ?_
  refine CA [(0, 22), (1, 23), (2, 24), (3, 25)] (markMachine_ok m 1 hm (by omega) (by omega)) ?_
  try simp only [go_sem, qA, qB, qC, qD, qE, qF, qG, qH]
  repeat refine K ?_
  try simp only [go_sem, qA, qB, qC, qD, qE, qF, qG, qH]
  repeat refine K ?_
  refine CA [(0, 27)] (markPickS_ok l (1 + wMachine m) (by omega) (by omega) (by omega)) ?_
  try simp only [go_sem, qA, qB, qC, qD, qE, qF, qG, qH]
  repeat refine K ?_
  try simp only [go_sem, qA, qB, qC, qD, qE, qF, qG, qH, d2]
  repeat refine K ?_
  refine CA [] (ew) ?_
  try simp only [go_sem, qA, qB, qC, qD, qE, qF, qG, qH]
  repeat refine K ?_
  try simp only [go_sem, qA, qB, qC, qD, qE, qF, qG, qH]
  repeat refine K ?_
  refine CA [] (ei) ?_
  try simp only [go_sem, qA, qB, qC, qD, qE, qF, qG, qH]
  repeat refine K ?_
  try simp only [go_sem, qA, qB, qC, qD, qE, qF, qG, qH]
  repeat refine K ?_
  refine CA [(0, 28), (1, 29), (2, 30), (3, 31)] (markMachine_ok w.1 1 hw (by omega) (by omega)) ?_
  try simp only [go_sem, qA, qB, qC, qD, qE, qF, qG, qH]
  repeat refine K ?_
  try simp only [go_sem, qA, qB, qC, qD, qE, qF, qG, qH]
  repeat refine K ?_
  refine CA [(0, 32)] (markIntS_ok w.2 (1 + wMachine w.1) (by omega) (by omega)) ?_
  try simp only [go_sem, qA, qB, qC, qD, qE, qF, qG, qH]
  repeat refine K ?_
  try simp only [go_sem, qA, qB, qC, qD, qE, qF, qG, qH]
  repeat refine K ?_
  have hh := heldMachine_ok w.1 1 hw (by omega) (by omega)
  unfold machineMarks at hh
  refine CA [] (hh) ?_
  try simp only [go_sem, qA, qB, qC, qD, qE, qF, qG, qH]
  repeat refine K ?_
  try simp only [go_sem, qA, qB, qC, qD, qE, qF, qG, qH, d1]
  repeat refine K ?_
  refine CA [] (heldIntS_ok w.2.length (1 + wMachine w.1) (by omega) (by omega)) ?_
  try simp only [go_sem, qA, qB, qC, qD, qE, qF, qG, qH]
  repeat refine K ?_
  try simp only [go_sem, qA, qB, qC, qD, qE, qF, qG, qH, d3]
  repeat refine K ?_
  refine CA [] (tm) ?_
  try simp only [go_sem, qA, qB, qC, qD, qE, qF, qG, qH]
  repeat refine K ?_
  try simp only [go_sem, qA, qB, qC, qD, qE, qF, qG, qH]
  repeat refine K ?_
  refine CA [] (tk) ?_
  try simp only [go_sem, qA, qB, qC, qD, qE, qF, qG, qH]
  repeat refine K ?_
  try simp only [go_sem, qA, qB, qC, qD, qE, qF, qG, qH]
  repeat refine K ?_
  refine CA [] (ci) ?_
  try simp only [go_sem, qA, qB, qC, qD, qE, qF, qG, qH]
  repeat refine K ?_
  try simp only [go_sem, qA, qB, qC, qD, qE, qF, qG, qH]
  repeat refine K ?_
  refine CA [] (ew) ?_
  try simp only [go_sem, qA, qB, qC, qD, qE, qF, qG, qH]
  repeat refine K ?_
  try simp only [go_sem, qA, qB, qC, qD, qE, qF, qG, qH]
  repeat refine K ?_
  refine CA [] (ei) ?_
  try simp only [go_sem, qA, qB, qC, qD, qE, qF, qG, qH]
  repeat refine K ?_
  try simp only [go_sem, qA, qB, qC, qD, qE, qF, qG, qH]
  repeat refine K ?_
  refine CA [] (hh) ?_
  try simp only [go_sem, qA, qB, qC, qD, qE, qF, qG, qH]
  repeat refine K ?_
  try simp only [go_sem, qA, qB, qC, qD, qE, qF, qG, qH, d1]
  repeat refine K ?_
  refine CA [] (heldIntS_ok w.2.length (1 + wMachine w.1) (by omega) (by omega)) ?_
  try simp only [go_sem, qA, qB, qC, qD, qE, qF, qG, qH]
  repeat refine K ?_
  try simp only [go_sem, qA, qB, qC, qD, qE, qF, qG, qH, d3]
  repeat refine K ?_
  refine ⟨_, Sub.refl _, ?_⟩; simp [FinS, nilL, nilV, oneOr, -List.drop_one]

end Go.Sep
