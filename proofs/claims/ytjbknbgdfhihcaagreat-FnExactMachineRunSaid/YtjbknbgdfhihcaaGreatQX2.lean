/- Contracts of functions. -/
import Derived.Test.YtjbknbgdfhihcaaGreatFns
import Derived.Test.YtjbknbgdfhihcaaGreatQa0
import Derived.Test.YtjbknbgdfhihcaaGreatQd0
import Derived.Test.YtjbknbgdfhihcaaGreatQe0
import Derived.Test.YtjbknbgdfhihcaaGreatQf0
import Derived.Test.YtjbknbgdfhihcaaGreatQj0
import Derived.Test.YtjbknbgdfhihcaaGreatQK0
import Derived.Test.YtjbknbgdfhihcaaGreatQt0
import Derived.Test.YtjbknbgdfhihcaaGreatQv0
import Derived.Test.YtjbknbgdfhihcaaGreatQw0
import Derived.Test.YtjbknbgdfhihcaaGreatQy0
import Derived.Test.YtjbknbgdfhihcaaGreatQz0
import Derived.Test.YtjbknbgdfhihcaaGreatQA0
import Derived.Test.YtjbknbgdfhihcaaGreatQM0
import Derived.Test.YtjbknbgdfhihcaaGreatQN0
import Derived.Test.YtjbknbgdfhihcaaGreatQO0
import Derived.Test.YtjbknbgdfhihcaaGreatQQ0
import Derived.Test.YtjbknbgdfhihcaaGreatQT0
import Derived.Test.YtjbknbgdfhihcaaGreatQV0
import Derived.Test.YtjbknbgdfhihcaaGreatQa2
import Derived.Test.YtjbknbgdfhihcaaGreatQf2
import Derived.Test.YtjbknbgdfhihcaaGreatQK2
import Derived.Test.YtjbknbgdfhihcaaGreatQt2
import Derived.Test.YtjbknbgdfhihcaaGreatQA2
import Derived.Test.YtjbknbgdfhihcaaGreatQC2
import Derived.Test.YtjbknbgdfhihcaaGreatQM2
import Derived.Test.YtjbknbgdfhihcaaGreatQN2
import Derived.Test.YtjbknbgdfhihcaaGreatQO2
import Derived.Test.YtjbknbgdfhihcaaGreatQQ2
import Derived.Test.YtjbknbgdfhihcaaGreatQS2
import Derived.Test.YtjbknbgdfhihcaaGreatQT2
import Derived.Test.YtjbknbgdfhihcaaGreatQV2
namespace Go.Sep
open Go.Proofs
set_option linter.unusedSimpArgs false
set_option linter.unusedVariables false
set_option maxRecDepth 100000
open Nat renaming reduceAdd → qA, reduceMul → qB, reduceEqDiff → qC, reduceBEq → qD
open Int renaming reduceToNat → qE, reduceEq → qF, reduceLT → qG, reduceLE → qH
open List renaming getD_eq_getElem?_getD → gD

-- S2
def m386 : MFn := ⟨65, [.cell 4 4 true, .t 5], .seq (xr [xo 2 (.box (.t 0)), xo 4 (.alloc [.nil, .nil, .nil, .nil]), xo 5 (.mv (.c (.nil)))]) (.seq (xr [xo 10 (.mkSl [xz] 0 []), xv 6 10]) (.seq (xr [xo 11 (.load 4 true (.t 2)), xo 12 (.call 356 [false] [.t 11]), xo 7 (.alloc [.nil, .nil, .nil, .nil]), ⟨none, .store 4 (.t 7) (.t 12), none⟩]) (.seq (.seq (xr [xo 13 (.load 4 true (.t 2)), xo 14 (.call 233 [false] [.t 13]), xo 15 (.un .«not» (.t 14)), xv 16 15, xg 17 (.mv (.t 1)) 16 false, xg 18 (.len (.t 17)) 16 false, xg 19 (.bin .gtr (.t 18) (xi 4000)) 16 false, xo 20 (.pick (.t 16) (.c (.bool true)) (.t 19))]) (.cond 20 (.seq (xr [xo 21 (.load 4 true (.t 7)), xv 22 6, ⟨none, .store 4 (.t 4) (.t 21), none⟩, xv 5 22]) (.ret)) (.skip))) (.seq (.seq (xr [xo 8 (.mv (xi 0))]) (.blk 0 (.loop (.seq (.seq (xr [xv 23 8, xv 24 1, xo 25 (.len (.t 24)), xo 26 (.bin .lss (.t 23) (.t 25))]) (.cond 26 (.skip) (.exit 0))) (.seq (.blk 1 (.seq (xr [xo 9 (.mv (xi 2))]) (.seq (.seq (.dreg (.take 0 (xv 29 1) (.take 1 (xv 30 8) (.take 2 (xo 31 (.iad 2 (.t 29) (.t 30))) (.take 3 (xo 32 (.fad 0 (.t 31))) (.take 4 (xo 33 (.load 1 false (.t 32))) (.only 5 [] (xo 34 (.fad 1 (.t 2))) (.only 6 [] (xo 35 (.load 1 false (.t 34))) (.only 7 [] (xo 36 (.len (.t 35))) (.only 8 [] (xo 37 (.bin .sub (.t 36) (xi 1))) (.only 9 [4, 3, 2, 0, 1] (xo 38 (.call 64 [false, false, false] [.t 33, xi 0, .t 37])) (.done)))))))))))) (.cond 38 (.seq (xr [xo 9 (.mv (xi 3))]) (.seq (.dreg (.take 0 (xo 39 (.fad 1 (.t 7))) (.take 1 (xo 40 (.load 1 false (.t 39))) (.take 2 (xv 41 1) (.only 3 [] (xv 42 8) (.only 4 [2] (xo 43 (.iad 2 (.t 41) (.t 42))) (.only 5 [4, 2] (xo 44 (.fad 0 (.t 43))) (.only 6 [5, 4, 2] (xo 45 (.load 1 false (.t 44))) (.only 7 [1, 6, 0, 5, 4, 2] (xo 46 (.iad 4 (.t 40) (.t 45))) (.only 8 [7, 1, 6, 0, 5, 4, 2] (xo 47 (.fad 3 (.t 46))) (.only 9 [8, 7, 1, 6, 0, 5, 4, 2] (xo 48 (.load 1 false (.t 47))) (.only 10 [9, 8, 7, 1, 6, 0, 5, 4, 2] (xo 49 (.bin .eql (.t 48) (xi 0))) (.done))))))))))))) (.cond 49 (.dreg (.take 0 (xo 51 (.load 4 true (.t 7))) (.take 1 (xv 52 1) (.only 2 [] (xv 53 8) (.only 3 [1] (xo 54 (.iad 2 (.t 52) (.t 53))) (.only 4 [3, 1] (xo 55 (.load 2 true (.t 54))) (.only 5 [0, 4, 3, 1] (xo 56 (.call 357 [true, false] [.t 51, .t 55])) (.only 6 [5, 0, 4, 3, 1] (xv 50 56) (.take 7 (xo 57 (.ext (.t 50) 0)) (.take 8 (xo 58 (.ext (.t 50) 1)) (.only 9 [0, 1, 7] ⟨none, .store 4 (.t 7) (.t 57), none⟩ (.only 10 [0, 1, 7, 8] (xv 9 58) (.done))))))))))))) (.skip)))) (.skip))) (xr [xv 59 6, xv 60 9, xo 61 (.mkSl [xz] 1 [(0, .t 60)]), xo 62 (.app 1 8 (.t 59) (.t 61)), xv 6 62])))) (xr [xv 27 8, xo 28 (.bin .add (.t 27) (xi 1)), xv 8 28])))))) (.seq (xr [xo 63 (.load 4 true (.t 7)), xv 64 6, ⟨none, .store 4 (.t 4) (.t 63), none⟩, xv 5 64]) (.ret))))))⟩
theorem c386 : chkC Tryz.prog num Tryz.f14.ntmps m386.body ((Tryz.f14.body).getD .skip) = true := by kernel_rfl
def m387 : MFn := ⟨39, [.cell 4 4 true, .t 5], .seq (xr [xo 2 (.box (.t 0)), xo 4 (.alloc [.nil, .nil, .nil, .nil]), xo 5 (.mv (.c (.nil)))]) (.seq (xr [xo 11 (.load 4 true (.t 2)), xo 12 (.call 358 [false] [.t 11]), xo 6 (.alloc [.nil, .nil, .nil, .nil]), ⟨none, .store 4 (.t 6) (.t 12), none⟩]) (.seq (xr [xo 13 (.mkSl [xz] 0 []), xv 7 13]) (.seq (.seq (xr [xv 14 1, xo 15 (.len (.t 14)), xo 16 (.bin .gtr (.t 15) (xi 4000)), xv 17 16, xg 18 (.load 4 true (.t 2)) 17 false, xg 19 (.call 235 [false] [.t 18]) 17 false, xg 20 (.un .«not» (.t 19)) 17 false, xo 21 (.pick (.t 17) (.c (.bool true)) (.t 20))]) (.cond 21 (.seq (xr [xo 22 (.load 4 true (.t 6)), xv 23 7, ⟨none, .store 4 (.t 4) (.t 22), none⟩, xv 5 23]) (.ret)) (.skip))) (.seq (.seq (xr [xv 24 1, xo 25 (.len (.t 24)), xo 26 (.mv (xi 0))]) (.blk 0 (.loop (.seq (xr [xo 27 (.bin .lss (.t 26) (.t 25))]) (.seq (.cond 27 (.skip) (.exit 0)) (.seq (.blk 1 (.seq (xr [xo 28 (.iad 2 (.t 24) (.t 26)), xo 29 (.load 2 true (.t 28)), xo 9 (.alloc [xz, xz]), ⟨none, .store 2 (.t 9) (.t 29), none⟩]) (.seq (xr [xo 30 (.load 2 true (.t 9)), xo 31 (.call 359 [true, false] [.t 6, .t 30]), xv 10 31]) (xr [xv 32 7, xv 33 10, xo 34 (.mkSl [xz] 1 [(0, .t 33)]), xo 35 (.app 1 8 (.t 32) (.t 34)), xv 7 35])))) (xr [xo 36 (.bin .add (.t 26) (xi 1)), xv 26 36]))))))) (.seq (xr [xo 37 (.load 4 true (.t 6)), xv 38 7, ⟨none, .store 4 (.t 4) (.t 37), none⟩, xv 5 38]) (.ret))))))⟩
theorem c387 : chkC Tryz.prog num Tryz.f17.ntmps m387.body ((Tryz.f17.body).getD .skip) = true := by kernel_rfl
def machRun (m : Machine) (l : List Pick) : Machine × List Int := if decide ((4000 : Int) < l.length) || !machineOk m then (m, []) else (mrun m l, mcodes m l)
def pkOk (x : Pick) : Prop := -(2 ^ 63) ≤ x.late ∧ x.late < 2 ^ 63
theorem mstep_none {m : Machine} {x : Pick} (h : within x.who 0 (m.cores.length - 1) = false) : mstep m x = (m, 2) := by
  have hc : mcode m x.who = 2 := by
    unfold mcode
    rw [h]
    rfl
  unfold mstep
  rw [hc]
  rfl
theorem mstep_three {m : Machine} {i : Nat} {late : Int} (hi : i < m.cores.length) (hc : (mstep m ⟨i, late⟩).2 ≠ 0) : (mstep m ⟨i, late⟩).2 = 3 := by
  have hw : within (i : Int) 0 ((m.cores.length : Int) - 1) = true := by rw [within_iff]; omega
  unfold mstep at hc ⊢
  simp only at hc ⊢
  by_cases h0 : mcode m (i : Int) = 0
  · rw [if_pos h0] at hc
    exact absurd rfl hc
  rw [if_neg h0]
  show mcode m (i : Int) = 3
  unfold mcode at h0 ⊢
  rw [if_pos hw] at h0 ⊢
  dsimp only at h0 ⊢
  split
  · rfl
  · rename_i h1
    rw [if_neg h1] at h0
    split
    · rfl
    · rename_i h2
      rw [if_neg h2] at h0
      exact absurd rfl h0
theorem take_mrun (m : Machine) (l : List Pick) (i : Nat) (h : i < l.length) : mrun m (l.take (i + 1)) = (mstep (mrun m (l.take i)) (l.getD i default)).1 := by
  rw [take_snoc l default i h, mrun_snoc]
theorem take_mcodes (m : Machine) (l : List Pick) (i : Nat) (h : i < l.length) : mcodes m (l.take (i + 1)) = mcodes m (l.take i) ++ [(mstep (mrun m (l.take i)) (l.getD i default)).2] := by
  rw [take_snoc l default i h, mcodes_snoc]
set_option maxHeartbeats 4000000 in
theorem implMachineRun_ok (m : Machine) (l : List Pick) (hm : SmallM m) (hl : l.length < 2 ^ 40) (hx : ∀ x ∈ l, pkOk x) : CallOk Tryz.prog num 387 [.agg (machineC .bw m), .sl .bw 2 (pcks l)] [] (.tup [.agg (machineC .own (machRun m l).1), .sl .own 1 (ints (machRun m l).2)]) := by
  refine enter (m := m387) (f := 387) (fn := Tryz.f17) Tryz.func17 (by kernel_rfl) rfl c387 rfl (by simp [Tryz.f17]) (by simp [bnds, bnd, nf_sl, nf_int, nf_bool, nf_str, ints_bnd]) (fun _ _ h => by simp [preH, look] at h) ?_
  unfold m387
  simp only [go_sem, qA, qB, qC, qD, qE, qF, qG, qH]
  repeat refine K ?_
  refine CA [] (copyMachine_ok m hm) ?_
  try simp only [go_sem, qA, qB, qC, qD, qE, qF, qG, qH]
  repeat refine K ?_
  try simp only [go_sem, qA, qB, qC, qD, qE, qF, qG, qH]
  repeat refine K ?_
  by_cases h4 : (4000 : Int) < l.length
  · have hr : machRun m l = (m, []) := by simp [machRun, h4]
    rw [hr]
    try simp only [go_sem, qA, qB, qC, qD, qE, qF, qG, qH, h4]
    repeat refine K ?_
    apply fin_tup (by simp)
    · exact Sub.refl _
    · simp [-List.drop_one, -gD, machineC, ints_nil] <;> (first | rfl | exact ⟨rfl, rfl⟩ | exact ⟨rfl, rfl, rfl⟩ | skip)
  try simp only [go_sem, qA, qB, qC, qD, qE, qF, qG, qH, h4]
  repeat refine K ?_
  refine CA [] (implMachineOk_ok m hm) ?_
  try simp only [go_sem, qA, qB, qC, qD, qE, qF, qG, qH]
  repeat refine K ?_
  cases hok : machineOk m
  · have hr : machRun m l = (m, []) := by simp [machRun, hok]
    rw [hr]
    try simp only [go_sem, qA, qB, qC, qD, qE, qF, qG, qH, hok]
    repeat refine K ?_
    apply fin_tup (by simp)
    · exact Sub.refl _
    · simp [-List.drop_one, -gD, machineC, ints_nil] <;> (first | rfl | exact ⟨rfl, rfl⟩ | exact ⟨rfl, rfl, rfl⟩ | skip)
  have hr : machRun m l = (mrun m l, mcodes m l) := by simp [machRun, hok, h4]
  rw [hr]
  try simp only [go_sem, qA, qB, qC, qD, qE, qF, qG, qH, hok]
  repeat refine K ?_
  refine loop_intro (ι := Nat) (fun i => .mk [(4, .ptr 11 0 0), (6, .ptr 12 0 0), (7, .ns 13 0 i), (24, .sl .bw 2 (pcks l)), (25, .int .i64 l.length), (26, .int .i64 i)] [(11, 4, [[.nil, .nil, .nil, .nil]]), (12, 4, [machineC .own (mrun m (l.take i))]), (13, 1, ints (mcodes m (l.take i)))] 14) (fun i => i ≤ l.length) (fun i => l.length - i) 0 (by simp) ?_ ?_
  · refine Sub.trans (Sub.fold1 16 0 12 rfl (by simp [-gD] <;> omega) rfl (by decide) (by decide) rfl) ?_
    simp only [fS, fS2, qA, qC]
    refine Sub.trans (Sub.fold1 16 1 13 rfl (by simp [-gD] <;> omega) rfl (by decide) (by decide) rfl) ?_
    simp only [fS, fS2, qA, qC]
    refine Sub.trans (Sub.fold1 16 2 14 rfl (by simp [-gD] <;> omega) rfl (by decide) (by decide) rfl) ?_
    simp only [fS, fS2, qA, qC]
    refine Sub.trans (Sub.fold1 16 3 15 rfl (by simp [-gD] <;> omega) rfl (by decide) (by decide) rfl) ?_
    simp only [fS, fS2, qA, qC]
    refine Sub.shape [] (fun n => if n = 12 then 16 else if n = 13 then 17 else n) (by omega) ?_ ?_ ?_ ?_ <;> simp [ints_rep]
    all_goals simp [mcodes, mrun, ints]
  · rintro i hi
    simp only [go_sem, qA, qB, qC, qD, qE, qF, qG, qH]
    refine branch_intro (fun hc => ?_) (fun hc => ?_)
    · simp only [decide_eq_true_eq] at hc
      have hl' : i < l.length := by omega
      have hlt : (mcodes m (l.take i)).length = i := by rw [mcodes_length]; simp; omega
      have hM := mrun_ok (l.take i) hok
      have hxi := hx _ (getD_mem l i default hl')
      have e1 := take_mrun m l i hl'
      have e2 := take_mcodes m l i hl'
      simp only [go_sem, qA, qB, qC, qD, qE, qF, qG, qH, wrap_succ (i := i) (by omega), pcks_getD l i hl', hlt]
      repeat refine K ?_
      refine CA [(0, 12)] (implStep_ok (mrun m (l.take i)) (l.getD i default) hM hxi) ?_
      try simp only [go_sem, qA, qB, qC, qD, qE, qF, qG, qH]
      repeat refine K ?_
      try simp only [go_sem, qA, qB, qC, qD, qE, qF, qG, qH, wrap_succ (i := i) (by omega), hlt]
      repeat refine K ?_
      refine back_intro (i + 1) ?_ hl' (by omega)
      rw [e1, e2]
      refine Sub.shape [] (fun n => if n = 13 then 16 else n) (by omega) ?_ ?_ ?_ ?_ <;> simp [ints_rep]
      exact .inl (by simp [ints])
    · simp only [decide_eq_false_iff_not] at hc
      obtain rfl : i = l.length := by omega
      have hie : l.take l.length = l := List.take_length
      have hlt : (mcodes m l).length = l.length := mcodes_length _ _
      simp only [go_sem, qA, qB, qC, qD, qE, qF, qG, qH, hie, hlt]
      repeat refine K ?_
      apply fin_tup (by simp)
      · exact Sub.refl _
      · simp [-List.drop_one, -gD, machineC, hlt] <;> (first | rfl | exact ⟨rfl, rfl⟩ | exact ⟨rfl, rfl, rfl⟩ | skip)
set_option maxHeartbeats 8000000 in
theorem specMachineRun_ok (m : Machine) (l : List Pick) (hm : SmallM m) (hl : l.length < 2 ^ 40) (hx : ∀ x ∈ l, pkOk x) : CallOk Tryz.prog num 386 [.agg (machineC .bw m), .sl .bw 2 (pcks l)] [] (.tup [.agg (machineC .own (machRun m l).1), .sl .own 1 (ints (machRun m l).2)]) := by
  refine enter (m := m386) (f := 386) (fn := Tryz.f14) Tryz.func14 (by kernel_rfl) rfl c386 rfl (by simp [Tryz.f14]) (by simp [bnds, bnd, nf_sl, nf_int, nf_bool, nf_str, ints_bnd]) (fun _ _ h => by simp [preH, look] at h) ?_
  unfold m386
  simp only [go_sem, qA, qB, qC, qD, qE, qF, qG, qH]
  repeat refine K ?_
  refine CA [] (l8Copy_ok m hm) ?_
  try simp only [go_sem, qA, qB, qC, qD, qE, qF, qG, qH]
  repeat refine K ?_
  try simp only [go_sem, qA, qB, qC, qD, qE, qF, qG, qH]
  repeat refine K ?_
  refine CA [] (specMachineOk_ok m hm) ?_
  try simp only [go_sem, qA, qB, qC, qD, qE, qF, qG, qH]
  repeat refine K ?_
  cases hok : machineOk m
  · have hr : machRun m l = (m, []) := by simp [machRun, hok]
    rw [hr]
    try simp only [go_sem, qA, qB, qC, qD, qE, qF, qG, qH, hok]
    repeat refine K ?_
    apply fin_tup (by simp)
    · exact Sub.refl _
    · simp [-List.drop_one, -gD, machineC, ints_nil] <;> (first | rfl | exact ⟨rfl, rfl⟩ | exact ⟨rfl, rfl, rfl⟩ | skip)
  try simp only [go_sem, qA, qB, qC, qD, qE, qF, qG, qH, hok]
  repeat refine K ?_
  by_cases h4 : (4000 : Int) < l.length
  · have hr : machRun m l = (m, []) := by simp [machRun, h4]
    rw [hr]
    try simp only [go_sem, qA, qB, qC, qD, qE, qF, qG, qH, h4]
    repeat refine K ?_
    apply fin_tup (by simp)
    · exact Sub.refl _
    · simp [-List.drop_one, -gD, machineC, ints_nil] <;> (first | rfl | exact ⟨rfl, rfl⟩ | exact ⟨rfl, rfl, rfl⟩ | skip)
  have hr : machRun m l = (mrun m l, mcodes m l) := by simp [machRun, hok, h4]
  rw [hr]
  try simp only [go_sem, qA, qB, qC, qD, qE, qF, qG, qH, h4]
  repeat refine K ?_
  have hM0 := (machineOk_iff m).1 hok
  have hc0 := hM0.cores
  have hn4 := hM0.n4
  have w1 : IntKind.i64.wrap ((m.cores.length : Int) - 1) = m.cores.length - 1 := wrap64 (by omega) (by omega)
  refine loop_intro (ι := Nat) (fun i => .mk [(1, .sl .bw 2 (pcks l)), (2, .ptr 10 0 0), (4, .ptr 11 0 0), (6, .ns 12 0 i), (7, .ptr 13 0 0), (8, .int .i64 i)] [(10, 4, [machineC .bw m]), (11, 4, [[.nil, .nil, .nil, .nil]]), (12, 1, ints (mcodes m (l.take i))), (13, 4, [machineC .own (mrun m (l.take i))])] 14) (fun i => i ≤ l.length) (fun i => l.length - i) 0 (by simp) ?_ ?_
  · refine Sub.trans (Sub.fold1 17 0 13 rfl (by simp [-gD] <;> omega) rfl (by decide) (by decide) rfl) ?_
    simp only [fS, fS2, qA, qC]
    refine Sub.trans (Sub.fold1 17 1 14 rfl (by simp [-gD] <;> omega) rfl (by decide) (by decide) rfl) ?_
    simp only [fS, fS2, qA, qC]
    refine Sub.trans (Sub.fold1 17 2 15 rfl (by simp [-gD] <;> omega) rfl (by decide) (by decide) rfl) ?_
    simp only [fS, fS2, qA, qC]
    refine Sub.trans (Sub.fold1 17 3 16 rfl (by simp [-gD] <;> omega) rfl (by decide) (by decide) rfl) ?_
    simp only [fS, fS2, qA, qC]
    refine Sub.shape [] (fun n => if n = 13 then 17 else n) (by omega) ?_ ?_ ?_ ?_ <;> simp [ints_rep]
    all_goals simp [mcodes, mrun, ints]
  · rintro i hi
    simp only [go_sem, qA, qB, qC, qD, qE, qF, qG, qH]
    repeat refine K ?_
    refine branch_intro (fun hc => ?_) (fun hc => ?_)
    · simp only [decide_eq_true_eq] at hc
      have hl' : i < l.length := by omega
      have hlt : (mcodes m (l.take i)).length = i := by rw [mcodes_length]; simp; omega
      have hMk := mrun_ok (l.take i) hok
      have hxi := hx _ (getD_mem l i default hl')
      have e1 := take_mrun m l i hl'
      have e2 := take_mcodes m l i hl'
      have hlen := (mrun_len m (l.take i)).1
      generalize mrun m (l.take i) = M at *
      generalize mcodes m (l.take i) = cds at *
      have hM := (machineOk_iff M).1 hMk
      have hpg := pcks_getD l i hl'
      generalize l.getD i default = x at *
      simp only [go_sem, qA, qB, qC, qD, qE, qF, qG, qH, hpg, w1]
      repeat refine K ?_
      refine DA [] (l1In_ok x.who 0 (m.cores.length - 1)) ?_
      try simp only [go_sem, qA, qB, qC, qD, qE, qF, qG, qH]
      repeat refine K ?_
      have hwx : within x.who 0 (m.cores.length - 1) = within x.who 0 (M.cores.length - 1) := by rw [hlen]
      cases hw : within x.who 0 (m.cores.length - 1)
      · have hn : mstep M x = (M, 2) := mstep_none (by rw [← hwx]; exact hw)
        rw [hn] at e1 e2
        try simp only [go_sem, qA, qB, qC, qD, qE, qF, qG, qH, hw, hlt, wrap_succ (i := i) (by omega)]
        repeat refine K ?_
        refine back_intro (i + 1) ?_ hl' (by omega)
        rw [e1, e2]
        refine Sub.shape [] (fun n => if n = 12 then 15 else n) (by omega) ?_ ?_ ?_ ?_ <;> simp [ints_rep]
        exact .inl (by simp [ints])
      rw [within_iff] at hw
      obtain ⟨j, hj⟩ := Int.eq_ofNat_of_zero_le hw.1
      obtain ⟨who, late⟩ := x
      simp only at hj hw
      subst hj
      have hjl : j < M.cores.length := by omega
      have hw' : within (j : Int) 0 (m.cores.length - 1) = true := by rw [within_iff]; omega
      have hcg := cores_getD .own M.cores j hjl
      have hk : M.cores.getD j default = coreAt M j := rfl
      rw [hk] at hcg
      by_cases hst : (coreAt M j).st = 0
      case neg =>
        have hn : mstep M ⟨j, late⟩ = (M, 3) := mstep_over rfl rfl hjl (.inl (.inl hst))
        rw [hn] at e1 e2
        try simp only [go_sem, qA, qB, qC, qD, qE, qF, qG, qH, hw', hlt, hst, hpg, hcg, wrap_succ (i := i) (by omega)]
        repeat refine K ?_
        refine back_intro (i + 1) ?_ hl' (by omega)
        rw [e1, e2]
        refine Sub.trans (Sub.fold1 13 1 14 rfl (by simp [-gD] <;> omega) rfl (by decide) (by decide) rfl) ?_
        simp only [fS, fS2, qA, qC]
        refine Sub.shape [] (fun n => if n = 12 then 16 else n) (by omega) ?_ ?_ ?_ ?_ <;> simp [ints_rep]
        exact .inl (by simp [ints])
      try simp only [go_sem, qA, qB, qC, qD, qE, qF, qG, qH, hw', hlt, hst, hpg, hcg, wrap_succ (i := i) (by omega)]
      repeat refine K ?_
      by_cases hcd : (mstep M ⟨j, late⟩).2 = 0
      · refine DA [(0, 15), (1, 14), (2, 16), (3, 17)] (l8Step_ok M j late hM hjl hst hcd hxi) ?_
        try simp only [go_sem, qA, qB, qC, qD, qE, qF, qG, qH]
        repeat refine K ?_
        rw [hcd] at e2
        try simp only [go_sem, qA, qB, qC, qD, qE, qF, qG, qH, hlt, wrap_succ (i := i) (by omega)]
        repeat refine K ?_
        refine back_intro (i + 1) ?_ hl' (by omega)
        rw [e1, e2]
        refine Sub.trans (Sub.fold1 13 0 18 rfl (by simp [-gD] <;> omega) rfl (by decide) (by decide) rfl) ?_
        simp only [fS, fS2, qA, qC]
        refine Sub.trans (Sub.fold1 13 1 19 rfl (by simp [-gD] <;> omega) rfl (by decide) (by decide) rfl) ?_
        simp only [fS, fS2, qA, qC]
        refine Sub.trans (Sub.fold1 13 2 20 rfl (by simp [-gD] <;> omega) rfl (by decide) (by decide) rfl) ?_
        simp only [fS, fS2, qA, qC]
        refine Sub.trans (Sub.fold1 13 3 21 rfl (by simp [-gD] <;> omega) rfl (by decide) (by decide) rfl) ?_
        simp only [fS, fS2, qA, qC]
        refine Sub.shape [] (fun n => if n = 12 then 23 else n) (by omega) ?_ ?_ ?_ ?_ <;> simp [ints_rep]
        exact .inl (by simp [ints])
      · refine DA [(0, 15), (1, 14), (2, 16), (3, 17)] (l8StepB_ok M j late hM hjl hst hcd hxi) ?_
        try simp only [go_sem, qA, qB, qC, qD, qE, qF, qG, qH]
        repeat refine K ?_
        have hn := mstep_no hcd
        have h3 := mstep_three hjl hcd
        rw [hn] at e1
        rw [h3] at e2
        try simp only [go_sem, qA, qB, qC, qD, qE, qF, qG, qH, hlt, wrap_succ (i := i) (by omega)]
        repeat refine K ?_
        refine back_intro (i + 1) ?_ hl' (by omega)
        rw [e1, e2]
        refine Sub.trans (Sub.fold1 13 0 15 rfl (by simp [-gD] <;> omega) rfl (by decide) (by decide) rfl) ?_
        simp only [fS, fS2, qA, qC]
        refine Sub.trans (Sub.fold1 13 1 14 rfl (by simp [-gD] <;> omega) rfl (by decide) (by decide) rfl) ?_
        simp only [fS, fS2, qA, qC]
        refine Sub.trans (Sub.fold1 13 2 16 rfl (by simp [-gD] <;> omega) rfl (by decide) (by decide) rfl) ?_
        simp only [fS, fS2, qA, qC]
        refine Sub.trans (Sub.fold1 13 3 17 rfl (by simp [-gD] <;> omega) rfl (by decide) (by decide) rfl) ?_
        simp only [fS, fS2, qA, qC]
        refine Sub.shape [] (fun n => if n = 12 then 19 else n) (by omega) ?_ ?_ ?_ ?_ <;> simp [ints_rep]
        exact .inl (by simp [ints])
    · simp only [decide_eq_false_iff_not] at hc
      obtain rfl : i = l.length := by omega
      have hie : l.take l.length = l := List.take_length
      have hlt : (mcodes m l).length = l.length := mcodes_length _ _
      simp only [go_sem, qA, qB, qC, qD, qE, qF, qG, qH, hie, hlt]
      repeat refine K ?_
      apply fin_tup (by simp)
      · exact Sub.refl _
      · simp [-List.drop_one, -gD, machineC, hlt] <;> (first | rfl | exact ⟨rfl, rfl⟩ | exact ⟨rfl, rfl, rfl⟩ | skip)

end Go.Sep
