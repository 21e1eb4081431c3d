/- Contracts of functions. -/
import Derived.Test.YtjbknbgdfhihcaaGreatVWc0
import Derived.Test.YtjbknbgdfhihcaaGreatVX0
import Derived.Test.YtjbknbgdfhihcaaGreatVXa0
namespace Go.Sep
open Go.Proofs
set_option linter.unusedSimpArgs false
set_option linter.unusedVariables false
set_option maxRecDepth 100000
open Nat renaming reduceAdd → qA, reduceMul → qB, reduceEqDiff → qC, reduceBEq → qD
open Int renaming reduceToNat → qE, reduceEq → qF, reduceLT → qG, reduceLE → qH
open List renaming getD_eq_getElem?_getD → gD
def m425 : MFn := ⟨43, [.cell 4 4 true], .seq (xr [xb 2 0, xb 3 1, xo 4 (.alloc [.nil, .nil, .nil, .nil])]) (.seq (.seq (xr [xo 5 (.mv (xi 0))]) (.blk 0 (.loop (.seq (.seq (xr [xv 8 5, xo 9 (.bin .lss (.t 8) (xi 4))]) (.cond 9 (.skip) (.exit 0))) (.seq (.blk 1 (.seq (xr [xo 6 (.mv (xi 0))]) (.blk 2 (.loop (.seq (.seq (xr [xv 12 6, xa 13 1 3, xl 14 13, xe 15 14, xo 16 (.bin .lss (.t 12) (.t 15))]) (.cond 16 (.skip) (.exit 2))) (.seq (.blk 3 (.seq (xr [xo 7 (.mv (xi 0))]) (.blk 4 (.loop (.seq (.seq (xr [xv 19 7, xo 20 (.bin .lss (.t 19) (xi 40)), xv 21 20, xg 22 (.fad 1 (.t 3)) 21 true, xg 23 (.load 1 false (.t 22)) 21 true, xg 24 (.mv (.t 6)) 21 true, xg 25 (.iad 4 (.t 23) (.t 24)) 21 true, xg 26 (.fad 3 (.t 25)) 21 true, xg 27 (.load 1 false (.t 26)) 21 true, xg 28 (.bin .eql (.t 27) (xi 0)) 21 true, xo 29 (.pick (.t 21) (.t 28) (.c (.bool false))), xv 30 29, xg 31 (.load 2 true (.t 2)) 30 true, xg 32 (.load 4 true (.t 3)) 30 true, xg 33 (.mv (.t 6)) 30 true, xg 34 (.call 225 [false, false, false] [.t 31, .t 32, .t 33]) 30 true, xg 35 (.un .«not» (.t 34)) 30 true, xo 36 (.pick (.t 30) (.t 35) (.c (.bool false)))]) (.cond 36 (.skip) (.exit 4))) (.seq (.blk 5 (xr [xm 39 4 3, xv 40 6, xo 41 (.call 364 [true, false, false] [.t 39, .t 40, xi 1]), ⟨none, .store 4 (.t 3) (.t 41), none⟩])) (xr [xv 37 7, xo 38 (.bin .add (.t 37) (xi 1)), xv 7 38]))))))) (xr [xv 17 6, xo 18 (.bin .add (.t 17) (xi 1)), xv 6 18]))))))) (xr [xv 10 5, xo 11 (.bin .add (.t 10) (xi 1)), xv 5 11])))))) (.seq (xr [xm 42 4 3, ⟨none, .store 4 (.t 4) (.t 42), none⟩]) (.ret)))⟩
def m427 : MFn := ⟨54, [.t 4], .seq (xr [xb 3 1, xo 4 (.mv (.c (.nil)))]) (.seq (xr [xo 9 (.mkSl [xz] 0 []), xv 5 9]) (.seq (.seq (xr [xo 10 (.mv (xi 0))]) (.blk 0 (.loop (.seq (xr [xo 11 (.bin .lss (.t 10) (xi 4))]) (.seq (.cond 11 (.skip) (.exit 0)) (.seq (.blk 1 (.seq (xr [xv 12 0, xk 13 12, xa 14 1 13, xl 15 14, xe 16 15, xo 17 (.mv (xi 0))]) (.blk 2 (.loop (.seq (xr [xo 18 (.bin .lss (.t 17) (.t 16))]) (.seq (.cond 18 (.skip) (.exit 2)) (.seq (.blk 3 (.seq (xr [xv 19 17, xv 6 19]) (.seq (xr [xo 20 (.mv (xi 0))]) (.blk 4 (.loop (.seq (xr [xo 21 (.bin .lss (.t 20) (xi 40))]) (.seq (.cond 21 (.skip) (.exit 4)) (.seq (.blk 5 (.seq (.seq (xr [xv 22 0, xk 23 22, xa 24 1 23, xl 25 24, xv 26 6, xo 27 (.iad 4 (.t 25) (.t 26)), xa 28 3 27, xl 29 28, xo 30 (.bin .neq (.t 29) (xi 0)), xv 31 30, xg 32 (.load 2 true (.t 3)) 31 false, xg 33 (.mv (.t 0)) 31 false, xg 34 (.mv (.t 6)) 31 false, xg 35 (.call 437 [false, false, false] [.t 32, .t 33, .t 34]) 31 false, xo 36 (.pick (.t 31) (.c (.bool true)) (.t 35))]) (.cond 36 (.exit 4) (.skip))) (.seq (xr [xm 38 2 3, xv 39 0, xv 40 6, xo 41 (.build [xz, xz] [(0, 1, .t 40)]), xo 42 (.call 428 [false, true, false] [.t 38, .t 39, .t 41]), xv 37 42, xo 43 (.ext (.t 37) 0), xo 44 (.ext (.t 37) 1), xv 7 43, xv 8 44]) (.seq (xr [xv 45 8]) (.cond 45 (xr [xv 46 5, xv 47 6, xo 48 (.mkSl [xz] 1 [(0, .t 47)]), xo 49 (.app 1 8 (.t 46) (.t 48)), xv 5 49]) (.skip)))))) (xr [xo 50 (.bin .add (.t 20) (xi 1)), xv 20 50]))))))))) (xr [xo 51 (.bin .add (.t 17) (xi 1)), xv 17 51])))))))) (xr [xo 52 (.bin .add (.t 10) (xi 1)), xv 10 52]))))))) (.seq (xr [xv 53 5, xv 4 53]) (.ret))))⟩
def m428 : MFn := ⟨57, [.t 6, .t 7], .seq (xr [xb 3 0, xb 5 2, xo 6 (.mv (xi 0)), xF 7]) (.seq (.seq (xr [xv 10 1, xa 11 0 5, xl 12 11, xc2 13 229 (.t 10) (.t 12), xo 14 (.un .«not» (.t 13))]) (.cond 14 (.seq (xr [xo 6 (.mv (xi 2)), xF 7]) (.ret)) (.skip))) (.seq (.dreg (.take 0 (xv 15 1) (.take 1 (xk 16 15) (.take 2 (xa 17 1 16) (.take 3 (xl 18 17) (.only 4 [] (xa 19 0 5) (.only 5 [] (xl 20 19) (.only 6 [3, 2, 1, 0] (xo 21 (.iad 4 (.t 18) (.t 20))) (.only 7 [6, 3, 2, 1, 0] (xa 22 0 21) (.only 8 [7, 6, 3, 2, 1, 0] (xl 23 22) (.only 9 [0, 1, 2, 3] (xv 8 23) (.done)))))))))))) (.seq (xr [xv 24 1, xm 25 2 5, xo 26 (.call 359 [true, false] [.t 24, .t 25]), xv 9 26]) (.seq (.dreg (.take 0 (xv 27 9) (.only 1 [] (xv 28 9) (.only 2 [] (xo 29 (.bin .eql (.t 28) (xi 0))) (.only 3 [] (xv 30 29) (.take 4 (xg 31 (.load 2 true (.t 3)) 30 true) (.take 5 (xg 32 (.mv (.t 1)) 30 true) (.take 6 (xg 33 (.nilck (.t 32)) 30 true) (.take 7 (xg 34 (.fad 0 (.t 33)) 30 true) (.take 8 (xg 35 (.load 1 false (.t 34)) 30 true) (.take 9 (xg 36 (.fad 0 (.t 5)) 30 true) (.take 10 (xg 37 (.load 1 false (.t 36)) 30 true) (.take 11 (xg 38 (.iad 1 (.t 35) (.t 37)) 30 true) (.take 12 (xg 39 (.load 1 false (.t 38)) 30 true) (.take 13 (xg 40 (.mv (.t 8)) 30 true) (.take 14 (xg 41 (.iad 5 (.t 39) (.t 40)) 30 true) (.take 15 (xg 42 (.load 5 true (.t 41)) 30 true) (.take 16 (xg 43 (.mv (.t 1)) 30 true) (.take 17 (xg 44 (.nilck (.t 43)) 30 true) (.take 18 (xg 45 (.fad 1 (.t 44)) 30 true) (.take 19 (xg 46 (.load 1 false (.t 45)) 30 true) (.take 20 (xg 47 (.fad 0 (.t 5)) 30 true) (.take 21 (xg 48 (.load 1 false (.t 47)) 30 true) (.take 22 (xg 49 (.iad 4 (.t 46) (.t 48)) 30 true) (.take 23 (xg 50 (.fad 1 (.t 49)) 30 true) (.take 24 (xg 51 (.load 1 false (.t 50)) 30 true) (.take 25 (xg 52 (.fad 0 (.t 5)) 30 true) (.take 26 (xg 53 (.load 1 false (.t 52)) 30 true) (.only 27 [] (xg 54 (.mv (.t 8)) 30 true) (.only 28 [4, 15, 24, 26, 14, 23, 25, 12, 13, 22, 11, 19, 21, 8, 10, 18, 20, 7, 9, 17, 6, 16, 5] (xg 55 (.call 236 [false, false, false, false, false] [.t 31, .t 42, .t 51, .t 53, .t 54]) 30 true) (.take 29 (xo 56 (.pick (.t 30) (.t 55) (.c (.bool false)))) (.only 30 [0, 28, 4, 15, 24, 26, 14, 23, 25, 12, 13, 22, 11, 19, 21, 8, 10, 18, 20, 7, 9, 17, 6, 16, 5] (xv 6 27) (.only 31 [0, 4, 5, 6, 7, 8, 9, 10, 11, 12, 13, 14, 15, 16, 17, 18, 19, 20, 21, 22, 23, 24, 25, 26, 29] (xv 7 56) (.done)))))))))))))))))))))))))))))))))) (.ret)))))⟩
def m437 : MFn := ⟨39, [.t 6], .seq (xr [xb 3 0, xF 6]) (.seq (.seq (xr [xv 9 1, xv 10 2, xc2 11 229 (.t 9) (.t 10), xo 12 (.un .«not» (.t 11))]) (.cond 12 (.seq (xr [xF 6]) (.ret)) (.skip))) (.seq (.dreg (.take 0 (xm 14 2 3) (.take 1 (xv 15 2) (.take 2 (xv 16 1) (.take 3 (xk 17 16) (.take 4 (xa 18 1 17) (.take 5 (xl 19 18) (.only 6 [] (xv 20 2) (.only 7 [5, 4, 3, 2] (xo 21 (.iad 4 (.t 19) (.t 20))) (.only 8 [7, 5, 4, 3, 2] (xa 22 0 21) (.only 9 [8, 7, 5, 4, 3, 2] (xl 23 22) (.only 10 [0, 1, 9, 8, 7, 5, 4, 3, 2] (xc3 24 230 (.t 14) (.t 15) (.t 23)) (.only 11 [10, 0, 1, 9, 8, 7, 5, 4, 3, 2] (xv 13 24) (.take 12 (xo 25 (.ext (.t 13) 0)) (.take 13 (xo 26 (.ext (.t 13) 1)) (.only 14 [0, 1, 2, 3, 4, 5, 12] (xv 7 25) (.only 15 [0, 1, 2, 3, 4, 5, 12, 13] (xv 8 26) (.done)))))))))))))))))) (.seq (xr [xv 27 1, xk 28 27, xa 29 1 28, xl 30 29, xv 31 2, xo 32 (.iad 4 (.t 30) (.t 31)), xa 33 3 32, xl 34 33, xo 35 (.bin .eql (.t 34) (xi 0)), xv 36 35, xg 37 (.mv (.t 8)) 36 true, xo 38 (.pick (.t 36) (.t 37) (.c (.bool false))), xv 6 38]) (.ret))))⟩
def rstGo (p : Prog) (M : Machine) (i : Nat) : Bool := decide ((coreAt M i).st = 0) && !between p M i
def rst (p : Prog) (i : Nat) : Nat → Machine → Machine
 | 0, M => M
 | n + 1, M => if rstGo p M i then rst p i n (mstep M ⟨i, 0⟩).1 else M
def rstO (p : Prog) (i : Nat) : Nat → Machine × List Int → Machine × List Int
 | 0, q => q
 | n + 1, q => if rstGo p q.1 i then rstO p i n ((mstep q.1 ⟨i, 0⟩).1, q.2 ++ (if did p q.1 ⟨i, 0⟩ = true then [(i : Int)] else [])) else q
theorem rstO_fst (p : Prog) (i : Nat) : ∀ (n : Nat) (q : Machine × List Int), (rstO p i n q).1 = rst p i n q.1
 | 0, _ => rfl
 | n + 1, q => by
  unfold rstO rst
  split
  ·rw [rstO_fst p i n]
  ·rfl
theorem rst_ok (p : Prog) (i : Nat) : ∀ (n : Nat) {M : Machine}, machineOk M = true → machineOk (rst p i n M) = true ∧ (rst p i n M).cores.length = M.cores.length
 | 0, _, h => ⟨h, rfl⟩
 | n + 1, M, h => by
  unfold rst
  split
  ·have := rst_ok p i n (mstep_ok ⟨i, 0⟩ h)
   exact ⟨this.1, by rw [this.2, (mstep_len M ⟨i, 0⟩).1]⟩
  ·exact ⟨h, rfl⟩
def rowO (p : Prog) (l : List Nat) (q : Machine × List Int) : Machine × List Int := l.foldl (fun q i => rstO p i 40 q) q
def rowM (p : Prog) (l : List Nat) (M : Machine) : Machine := l.foldl (fun M i => rst p i 40 M) M
theorem rowO_fst (p : Prog) : ∀ (l : List Nat) (q : Machine × List Int), (rowO p l q).1 = rowM p l q.1
 | [], _ => rfl
 | i :: l, q => by
  unfold rowO rowM
  simp only [List.foldl_cons]
  have := rowO_fst p l (rstO p i 40 q)
  unfold rowO rowM at this
  rw [this, rstO_fst]
theorem rowM_ok (p : Prog) : ∀ (l : List Nat) {M : Machine}, machineOk M = true → machineOk (rowM p l M) = true ∧ (rowM p l M).cores.length = M.cores.length
 | [], _, h => ⟨h, rfl⟩
 | i :: l, M, h => by
  have h1 := rst_ok p i 40 h
  have h2 := rowM_ok p l h1.1
  exact ⟨h2.1, by show (rowM p l (rst p i 40 M)).cores.length = _; rw [h2.2, h1.2]⟩
def restO (p : Prog) (n : Nat) : Nat → Machine × List Int → Machine × List Int
 | 0, q => q
 | k + 1, q => restO p n k (rowO p (List.range n) q)
def restN (p : Prog) (n : Nat) : Nat → Machine → Machine
 | 0, M => M
 | k + 1, M => restN p n k (rowM p (List.range n) M)
theorem restO_fst (p : Prog) (n : Nat) : ∀ (k : Nat) (q : Machine × List Int), (restO p n k q).1 = restN p n k q.1
 | 0, _ => rfl
 | k + 1, q => by
  unfold restO restN
  rw [restO_fst p n k, rowO_fst]
theorem restN_ok (p : Prog) (n : Nat) : ∀ (k : Nat) {M : Machine}, machineOk M = true → machineOk (restN p n k M) = true ∧ (restN p n k M).cores.length = M.cores.length
 | 0, _, h => ⟨h, rfl⟩
 | k + 1, M, h => by
  have h1 := rowM_ok p (List.range n) h
  have h2 := restN_ok p n k h1.1
  exact ⟨h2.1, by show (restN p n k (rowM p (List.range n) M)).cores.length = _; rw [h2.2, h1.2]⟩
theorem sub_succ {n j : Nat} (h : j < n) : n - j = (n - (j + 1)) + 1 := by omega
theorem drop_range {n i : Nat} (h : i < n) : (List.range n).drop i = i :: (List.range n).drop (i + 1) := by
 rw [List.drop_eq_getElem_cons (by simpa using h)]
 simp
theorem between_eq (p : Prog) (m : Machine) (i : Nat) : between p m i = (within (i : Int) 0 (m.cores.length - 1) && decide ((coreAt m i).st = 0) && (placeOf p i (coreAt m i).at_).2) := rfl
theorem implBetween_ok (p : Prog) (m : Machine) (i : Nat) (hp : SmallP p) (hl : m.cores.length < 2 ^ 40) (hi : i < m.cores.length) : CallOk Tryz.prog num 437 [.agg (progC .bw p), .fptr .bw (machineC .bw m) 0, .int .i64 i] [] (.bool (between p m i)) := by
 refine EN m437 Tryz.func186 ?_
 unfold m437
 have hw : within (i : Int) 0 (m.cores.length - 1) = true := by rw [within_iff]; omega
 have hcg := qAg .bw m.cores i hi
 have hk : m.cores.getD i default = coreAt m i := rfl
 rw [hk] at hcg
 rw [between_eq, hw, Bool.true_and]
 simp only [go_sem, qA, qB, qC, qD, qE, qF, qG, qH]
 repeat refine K ?_
 refine CA [] (isCore_ok m i hl) ?_
 try simp only [go_sem, qA, qB, qC, qD, qE, qF, qG, qH]
 repeat refine K ?_
 try simp only [go_sem, qA, qB, qC, qD, qE, qF, qG, qH, hw, hcg]
 repeat refine K ?_
 refine DA [] (implPlaceOf_ok p i (coreAt m i).at_ hp) ?_
 try simp only [go_sem, qA, qB, qC, qD, qE, qF, qG, qH]
 repeat refine K ?_
 try simp only [go_sem, qA, qB, qC, qD, qE, qF, qG, qH, hcg]
 repeat refine K ?_
 by_cases hst : (coreAt m i).st = 0
 ·try simp only [go_sem, qA, qB, qC, qD, qE, qF, qG, qH, hst, hcg]
  repeat refine K ?_
  refine fz ?_; simp [FinS, nilL, nilV, oneOr, -List.drop_one]
 ·try simp only [go_sem, qA, qB, qC, qD, qE, qF, qG, qH, hst, hcg]
  repeat refine K ?_
  refine fz ?_; simp [FinS, nilL, nilV, oneOr, -List.drop_one]
set_option maxHeartbeats 4000000 in
theorem implWitnessed_ok (p : Prog) (m : Machine) (x : Pick) (hp : SmallP p) (h : machineOk m = true) (hx : pkOk x) : CallOk Tryz.prog num 428 [.agg (progC .bw p), .ptr 0 0 0, .agg (pickC x)] [(0, some (4, [machineC .own m]), some (4, [machineC .own (mstep m x).1]))] (.tup [.int .i64 (mstep m x).2, .bool (did p m x)]) := by
 refine EH m428 Tryz.func116 ?_
 unfold m428
 have hM := (qAx m).1 h
 have hc0 := hM.cores
 have hn4 := hM.n4
 simp only [go_sem, qA, qB, qC, qD, qE, qF, qG, qH]
 repeat refine K ?_
 refine CA [] (isCore_ok m x.who (by omega)) ?_
 try simp only [go_sem, qA, qB, qC, qD, qE, qF, qG, qH]
 repeat refine K ?_
 cases hw : within x.who 0 (m.cores.length - 1)
 ·have hn : mstep m x = (m, 2) := mstep_none hw
  have hd : did p m x = false := by unfold did; rw [hn]; rfl
  rw [hn, hd]
  try simp only [go_sem, qA, qB, qC, qD, qE, qF, qG, qH, hw]
  repeat refine K ?_
  apply qAh (by simp)
  ·exact Sub.refl _
  ·simp [-List.drop_one, -gD, machineC] <;> (first | rfl | exact ⟨rfl, rfl⟩ | exact ⟨rfl, rfl, rfl⟩ | skip)
 have hw' := within_iff.1 hw
 obtain ⟨j, hj⟩ := Int.eq_ofNat_of_zero_le hw'.1
 obtain ⟨who, late⟩ := x
 simp only at hj hw'
 subst hj
 have hjl : j < m.cores.length := by omega
 have hcg := qAg .own m.cores j hjl
 have hk : m.cores.getD j default = coreAt m j := rfl
 rw [hk] at hcg
 try simp only [go_sem, qA, qB, qC, qD, qE, qF, qG, qH, hw, hcg]
 repeat refine K ?_
 apply calls_mk
 ·refine Sub.trans (Sub.fold1 0 1 12 rfl (by simp [-gD] <;> omega) rfl (by decide) (by decide) rfl) ?_
  simp only [fS, fS2, qA, qC]
  exact Sub.refl _
 refine CA [(0, 0)] (implStep_ok m ⟨j, late⟩ h hx) ?_
 try simp only [go_sem, qA, qB, qC, qD, qE, qF, qG, qH]
 repeat refine K ?_
 have hMs := mstep_ok ⟨j, late⟩ h
 have hlen := mstep_len m ⟨j, late⟩
 have hdid : did p m ⟨j, late⟩ = (decide ((mstep m ⟨j, late⟩).2 = 0) && commitsI p (stepAt m j) (coreAt (mstep m ⟨j, late⟩).1 j).regs j (coreAt m j).at_) := rfl
 rw [hdid]
 have hK := hM.core j hjl
 have e1 := hK.at0
 have e2 := hK.at1
 have hcdj : j < m.codes.length := by omega
 have hat : (coreAt m j).at_.toNat < (m.codes.getD j []).length := by omega
 have hsg := qB6 (m.codes.getD j []) (coreAt m j).at_.toNat hat
 have hss : (m.codes.getD j []).getD (coreAt m j).at_.toNat default = stepAt m j := rfl
 rw [hss] at hsg
 generalize mstep m ⟨j, late⟩ = w at *
 obtain ⟨M, code⟩ := w
 simp only at hMs hlen ⊢
 obtain ⟨hl1, hl2⟩ := hlen
 have hM2 := (qAx M).1 hMs
 have hjl2 : j < M.cores.length := by omega
 have hcdj2 : j < M.codes.length := by rw [hl2]; exact hcdj
 have hcg2 := qAg .own M.cores j hjl2
 have hk2 : M.cores.getD j default = coreAt M j := rfl
 rw [hk2] at hcg2
 have hdg2 := qB8 .own M.codes j hcdj2
 rw [hl2] at hdg2
 have hr8 := (hM2.core j hjl2).regs
 by_cases hcd : code = 0
 case neg =>
  have hd : decide (code = 0) = false := by simpa using hcd
  rw [hd, Bool.false_and]
  try simp only [go_sem, qA, qB, qC, qD, qE, qF, qG, qH, hcd]
  repeat refine K ?_
  apply qAh (by simp)
  ·exact Sub.refl _
  ·simp [-List.drop_one, -gD, machineC] <;> (first | rfl | exact ⟨rfl, rfl⟩ | exact ⟨rfl, rfl, rfl⟩ | skip)
 have hd : decide (code = 0) = true := by simpa using hcd
 rw [hd, Bool.true_and]
 subst hcd
 have hdself : (codes .own m.codes).set j [.sl .own 5 (steps (m.codes.getD j []))] = codes .own m.codes := by rw [← hdg2, qAa _ _ _ (by rw [qBi]; exact hcdj)]
 have hcself : (cores .own M.cores).set j [.int .i64 (coreAt M j).at_, .sl .own 1 (ints (coreAt M j).regs), .sl .own 1 (ints (coreAt M j).view), .int .i64 (coreAt M j).st] = cores .own M.cores := by rw [← hcg2, qAa _ _ _ (by rw [qAm]; exact hjl2)]
 try simp only [go_sem, qA, qB, qC, qD, qE, qF, qG, qH, hcg2, hdg2, hsg, hl2]
 repeat refine K ?_
 refine DA [] (implCommitsOf_ok p (stepAt m j) (coreAt M j).regs j (coreAt m j).at_ hp (by omega) (by omega)) ?_
 try simp only [go_sem, qA, qB, qC, qD, qE, qF, qG, qH]
 repeat refine K ?_
 try simp only [go_sem, qA, qB, qC, qD, qE, qF, qG, qH, hcg2, hdg2, hsg, hl2]
 repeat refine K ?_
 apply qAh (by simp)
 ·repeat' ((first | refine FA 13 0 14 ?_ | refine FA 15 1 16 ?_ | refine F1 0 0 13 ?_ | refine F1 0 1 15 ?_ | fail); simp only [fS, fS2, fS2, qA, qC, hdself, hcself])
  exact Sub.refl _
 ·simp [-List.drop_one, -gD, machineC, hl2] <;> (first | rfl | exact ⟨rfl, rfl⟩ | exact ⟨rfl, rfl, rfl⟩ | skip)
set_option maxHeartbeats 8000000 in
theorem implRest_ok (p : Prog) (m : Machine) (hp : SmallP p) (h : machineOk m = true) : CallOk Tryz.prog num 427 [.ptr 0 0 0, .agg (progC .bw p)] [(0, some (4, [machineC .own m]), some (4, [machineC .own (restN p m.cores.length 4 m)]))] (.sl .own 1 (ints (restO p m.cores.length 4 (m, [])).2)) := by
 have hM := (qAx m).1 h
 have hc0 := hM.cores
 have hn4 := hM.n4
 have hfst := restO_fst p m.cores.length 4 (m, [])
 simp only at hfst
 rw [← hfst]
 refine EH m427 Tryz.func110 ?_
 unfold m427
 simp only [go_sem, qA, qB, qC, qD, qE, qF, qG, qH]
 repeat refine K ?_
 generalize hn : m.cores.length = n at *
 refine qA6 (ι := Nat × Machine × List Int) (fun q => .mk [(0, .ptr 0 0 0), (3, .ptr 10 0 0), (5, .ns 11 0 q.2.2.length), (10, .int .i64 q.1)] [(0, 4, [machineC .own q.2.1]), (10, 2, [progC .bw p]), (11, 1, ints q.2.2)] 12) (fun q => q.1 ≤ 4 ∧ machineOk q.2.1 = true ∧ q.2.1.cores.length = n ∧ q.2.2.length ≤ 160 * q.1 ∧ restO p n (4 - q.1) q.2 = restO p n 4 (m, [])) (fun q => 4 - q.1) (0, m, []) ⟨by simp, h, hn, by simp, rfl⟩ ?_ ?_
 ·refine Sub.shape [] id (by omega) ?_ ?_ ?_ ?_ <;> simp [qA3]
  all_goals simp [ints]
 ·rintro ⟨k, M, o⟩ ⟨hk, hMk, hlen, ho, he⟩
  simp only at hk hMk hlen ho he
  simp only [go_sem, qA, qB, qC, qD, qE, qF, qG, qH]
  refine qA1 (fun hc => ?_) (fun hc => ?_)
  rotate_left
  case _ =>
   simp only [decide_eq_false_iff_not] at hc
   obtain rfl : k = 4 := by omega
   have he' : (M, o) = restO p n 4 (m, []) := he
   rw [← he']
   simp only [go_sem, qA, qB, qC, qD, qE, qF, qG, qH]
   repeat refine K ?_
   apply qAq
   ·exact Sub.refl _
   ·simp [-List.drop_one, -gD, machineC] <;> (first | rfl | exact ⟨rfl, rfl⟩ | exact ⟨rfl, rfl, rfl⟩ | skip)
  simp only [decide_eq_true_eq] at hc
  have hk4 : k < 4 := by omega
  rw [sub_succ hk4] at he
  simp only [go_sem, qA, qB, qC, qD, qE, qF, qG, qH, hlen]
  repeat refine K ?_
  refine qA6 (ι := Nat × Machine × List Int) (fun q => .mk [(0, .ptr 0 0 0), (3, .ptr 10 0 0), (5, .ns 11 0 q.2.2.length), (10, .int .i64 k), (16, .int .i64 n), (17, .int .i64 q.1)] [(0, 4, [machineC .own q.2.1]), (10, 2, [progC .bw p]), (11, 1, ints q.2.2)] 12) (fun q => q.1 ≤ n ∧ machineOk q.2.1 = true ∧ q.2.1.cores.length = n ∧ q.2.2.length ≤ 160 * k + 40 * q.1 ∧ rowO p ((List.range n).drop q.1) q.2 = rowO p (List.range n) (M, o)) (fun q => n - q.1) (0, M, o) ⟨by simp, hMk, hlen, by simp only; omega, by simp⟩ ?_ ?_
  ·refine Sub.trans (Sub.fold1 0 1 12 rfl (by simp [-gD] <;> omega) rfl (by decide) (by decide) rfl) ?_
   simp only [fS, fS2, qA, qC]
   refine Sub.shape [] id (by omega) ?_ ?_ ?_ ?_ <;> simp [qA3]
   all_goals exact fun e => absurd hlen e
  ·rintro ⟨i, M1, o1⟩ ⟨hi, hM1, hlen1, ho1, he1⟩
   simp only at hi hM1 hlen1 ho1 he1
   simp only [go_sem, qA, qB, qC, qD, qE, qF, qG, qH]
   refine qA1 (fun hc1 => ?_) (fun hc1 => ?_)
   rotate_left
   case _ =>
    simp only [decide_eq_false_iff_not] at hc1
    obtain rfl : i = n := by omega
    have he1' : (M1, o1) = rowO p (List.range i) (M, o) := by
     rw [← he1, List.drop_eq_nil_of_le (by simp)]
     rfl
    simp only [go_sem, qA, qB, qC, qD, qE, qF, qG, qH, qA4 (i := k) (by omega)]
    repeat refine K ?_
    refine qA5 (k + 1, M1, o1) ?_ ⟨hk4, hM1, hlen1, by simp only; omega, by rw [← he]; simp only [restO]; rw [← he1']⟩ (by simp only; omega)
    refine Sub.shape [] id (by omega) ?_ ?_ ?_ ?_ <;> simp [qA3]
   simp only [decide_eq_true_eq] at hc1
   have hin : i < n := by omega
   rw [drop_range hin] at he1
   simp only [go_sem, qA, qB, qC, qD, qE, qF, qG, qH]
   repeat refine K ?_
   refine qA6 (ι := Nat × Machine × List Int) (fun q => .mk [(0, .ptr 0 0 0), (3, .ptr 10 0 0), (5, .ns 11 0 q.2.2.length), (6, .int .i64 i), (10, .int .i64 k), (16, .int .i64 n), (17, .int .i64 i), (20, .int .i64 q.1)] [(0, 4, [machineC .own q.2.1]), (10, 2, [progC .bw p]), (11, 1, ints q.2.2)] 12) (fun q => q.1 ≤ 40 ∧ machineOk q.2.1 = true ∧ q.2.1.cores.length = n ∧ q.2.2.length ≤ 160 * k + 40 * i + q.1 ∧ rstO p i (40 - q.1) q.2 = rstO p i 40 (M1, o1)) (fun q => 40 - q.1) (0, M1, o1) ⟨by simp, hM1, hlen1, by simp only; omega, rfl⟩ ?_ ?_
   ·refine Sub.shape [] id (by omega) ?_ ?_ ?_ ?_ <;> simp [qA3]
   ·rintro ⟨j, M2, o2⟩ ⟨hj, hM2, hlen2, ho2, he2⟩
    simp only at hj hM2 hlen2 ho2 he2
    have next : ∀ q, q = rstO p i 40 (M1, o1) → rowO p ((List.range n).drop (i + 1)) q = rowO p (List.range n) (M, o) := fun q hq => by
     rw [← he1, hq]
     rfl
    simp only [go_sem, qA, qB, qC, qD, qE, qF, qG, qH]
    refine qA1 (fun hc2 => ?_) (fun hc2 => ?_)
    rotate_left
    case _ =>
     simp only [decide_eq_false_iff_not] at hc2
     obtain rfl : j = 40 := by omega
     simp only [go_sem, qA, qB, qC, qD, qE, qF, qG, qH, qA4 (i := i) (by omega)]
     repeat refine K ?_
     refine qA5 (i + 1, M2, o2) ?_ ⟨hin, hM2, hlen2, by simp only; omega, next _ he2⟩ (by simp only; omega)
     refine Sub.shape [] id (by omega) ?_ ?_ ?_ ?_ <;> simp [qA3]
    simp only [decide_eq_true_eq] at hc2
    have hj40 : j < 40 := by omega
    rw [sub_succ hj40] at he2
    have hil : i < M2.cores.length := by omega
    have hcg := qAg .own M2.cores i hil
    have hkk : M2.cores.getD i default = coreAt M2 i := rfl
    rw [hkk] at hcg
    simp only [go_sem, qA, qB, qC, qD, qE, qF, qG, qH, hcg]
    repeat refine K ?_
    by_cases hst : (coreAt M2 i).st = 0
    case neg =>
     have hgo : rstGo p M2 i = false := by simp [rstGo, hst]
     have he3 : (M2, o2) = rstO p i 40 (M1, o1) := by
      rw [← he2]
      simp only [rstO, hgo]
      rfl
     try simp only [go_sem, qA, qB, qC, qD, qE, qF, qG, qH, hst, hcg, qA4 (i := i) (by omega)]
     repeat refine K ?_
     refine qA5 (i + 1, M2, o2) ?_ ⟨hin, hM2, hlen2, by simp only; omega, next _ he3⟩ (by simp only; omega)
     refine Sub.trans (Sub.fold1 0 1 12 rfl (by simp [-gD] <;> omega) rfl (by decide) (by decide) rfl) ?_
     simp only [fS, fS2, qA, qC]
     refine Sub.shape [] id (by omega) ?_ ?_ ?_ ?_ <;> simp [qA3]
    try simp only [go_sem, qA, qB, qC, qD, qE, qF, qG, qH, hst, hcg]
    repeat refine K ?_
    apply calls_mk
    ·refine Sub.trans (Sub.fold1 0 1 12 rfl (by simp [-gD] <;> omega) rfl (by decide) (by decide) rfl) ?_
     simp only [fS, fS2, qA, qC]
     exact Sub.refl _
    refine CA [] (implBetween_ok p M2 i hp (by omega) hil) ?_
    try simp only [go_sem, qA, qB, qC, qD, qE, qF, qG, qH]
    repeat refine K ?_
    cases hb : between p M2 i
    case true =>
     have hgo : rstGo p M2 i = false := by simp [rstGo, hb]
     have he3 : (M2, o2) = rstO p i 40 (M1, o1) := by
      rw [← he2]
      simp only [rstO, hgo]
      rfl
     try simp only [go_sem, qA, qB, qC, qD, qE, qF, qG, qH, hb, qA4 (i := i) (by omega)]
     repeat refine K ?_
     refine qA5 (i + 1, M2, o2) ?_ ⟨hin, hM2, hlen2, by simp only; omega, next _ he3⟩ (by simp only; omega)
     refine Sub.shape [] id (by omega) ?_ ?_ ?_ ?_ <;> simp [qA3]
    have hgo : rstGo p M2 i = true := by simp [rstGo, hb, hst]
    try simp only [go_sem, qA, qB, qC, qD, qE, qF, qG, qH, hb]
    repeat refine K ?_
    refine CA [(0, 0)] (implWitnessed_ok p M2 ⟨i, 0⟩ hp hM2 (by unfold pkOk; simp)) ?_
    try simp only [go_sem, qA, qB, qC, qD, qE, qF, qG, qH]
    repeat refine K ?_
    have hM3 := mstep_ok ⟨i, 0⟩ hM2
    have hlen3 := (mstep_len M2 ⟨i, 0⟩).1
    cases hd : did p M2 ⟨i, 0⟩
    ·have he3 : rstO p i (40 - (j + 1)) ((mstep M2 ⟨i, 0⟩).1, o2) = rstO p i 40 (M1, o1) := by
      rw [← he2]
      simp only [rstO, hgo, hd]
      simp
     try simp only [go_sem, qA, qB, qC, qD, qE, qF, qG, qH, hd, qA4 (i := j) (by omega)]
     repeat refine K ?_
     refine qA5 (j + 1, (mstep M2 ⟨i, 0⟩).1, o2) ?_ ⟨hj40, hM3, by rw [hlen3]; exact hlen2, by simp only; omega, he3⟩ (by simp only; omega)
     refine Sub.shape [] id (by omega) ?_ ?_ ?_ ?_ <;> simp [qA3]
    ·have he3 : rstO p i (40 - (j + 1)) ((mstep M2 ⟨i, 0⟩).1, o2 ++ [(i : Int)]) = rstO p i 40 (M1, o1) := by
      rw [← he2]
      simp only [rstO, hgo, hd]
      simp
     try simp only [go_sem, qA, qB, qC, qD, qE, qF, qG, qH, hd, qA4 (i := j) (by omega)]
     repeat refine K ?_
     refine qA5 (j + 1, (mstep M2 ⟨i, 0⟩).1, o2 ++ [(i : Int)]) ?_ ⟨hj40, hM3, by rw [hlen3]; exact hlen2, by simp; omega, he3⟩ (by simp only; omega)
     refine Sub.shape [] (fun n => if n = 11 then 14 else n) (by omega) ?_ ?_ ?_ ?_ <;> simp [qA3]
     exact .inl (by simp [ints])
theorem maloneN_one (m : Machine) (who : Int) : maloneN (aloneN 1) m who = (mstep m ⟨who, 0⟩).1 := by
 show maloneN 1 m who = _
 unfold maloneN
 split
 ·rfl
 ·rfl
set_option maxHeartbeats 8000000 in
theorem l15Rest_ok (p : Prog) (m : Machine) (hp : SmallP p) (h : machineOk m = true) : CallOk Tryz.prog num 425 [.agg (progC .bw p), mchV m] (mchF m) (.agg (machineC .own (restN p m.cores.length 4 m))) := by
 have hM := (qAx m).1 h
 have hc0 := hM.cores
 have hn4 := hM.n4
 refine EH m425 Tryz.func108 (hh := mchF_hb m) ?_
 unfold m425
 simp only [go_sem, qA, qB, qC, qD, qE, qF, qG, qH]
 repeat refine K ?_
 generalize hn : m.cores.length = n at *
 refine qA6 (ι := Nat × Machine) (fun q => .mk [(2, .ptr 10 0 0), (3, .ptr 11 0 0), (4, .ptr 12 0 0), (5, .int .i64 q.1)] [(10, 2, [progC .bw p]), (11, 4, [machineC .own q.2]), (12, 4, [[.nil, .nil, .nil, .nil]])] 13) (fun q => q.1 ≤ 4 ∧ machineOk q.2 = true ∧ q.2.cores.length = n ∧ restN p n (4 - q.1) q.2 = restN p n 4 m) (fun q => 4 - q.1) (0, m) ⟨by simp, h, hn, rfl⟩ ?_ ?_
 ·refine G1 11 0 0 ?_
  simp only [fS, fS2, fS2, qA, qC]
  refine G1 11 1 1 ?_
  simp only [fS, fS2, fS2, qA, qC]
  refine G1 11 2 2 ?_
  simp only [fS, fS2, fS2, qA, qC]
  refine G1 11 3 3 ?_
  simp only [fS, fS2, fS2, qA, qC]
  refine Sub.shape [] id (by omega) ?_ ?_ ?_ ?_ <;> simp [qA3]
  all_goals exact fun e => absurd hn e
 ·rintro ⟨k, M⟩ ⟨hk, hMk, hlen, he⟩
  simp only at hk hMk hlen he
  simp only [go_sem, qA, qB, qC, qD, qE, qF, qG, qH]
  refine qA1 (fun hc => ?_) (fun hc => ?_)
  rotate_left
  case _ =>
   simp only [decide_eq_false_iff_not] at hc
   obtain rfl : k = 4 := by omega
   have he' : M = restN p n 4 m := he
   rw [← he']
   simp only [go_sem, qA, qB, qC, qD, qE, qF, qG, qH]
   repeat refine K ?_
   refine ⟨_, Sub.refl _, qBc ?_⟩; simp [-List.drop_one]
  simp only [decide_eq_true_eq] at hc
  have hk4 : k < 4 := by omega
  rw [sub_succ hk4] at he
  simp only [go_sem, qA, qB, qC, qD, qE, qF, qG, qH]
  repeat refine K ?_
  refine qA6 (ι := Nat × Machine) (fun q => .mk [(2, .ptr 10 0 0), (3, .ptr 11 0 0), (4, .ptr 12 0 0), (5, .int .i64 k), (6, .int .i64 q.1)] [(10, 2, [progC .bw p]), (11, 4, [machineC .own q.2]), (12, 4, [[.nil, .nil, .nil, .nil]])] 13) (fun q => q.1 ≤ n ∧ machineOk q.2 = true ∧ q.2.cores.length = n ∧ rowM p ((List.range n).drop q.1) q.2 = rowM p (List.range n) M) (fun q => n - q.1) (0, M) ⟨by simp, hMk, hlen, by simp⟩ ?_ ?_
  ·refine Sub.shape [] id (by omega) ?_ ?_ ?_ ?_ <;> simp [qA3]
  ·rintro ⟨i, M1⟩ ⟨hi, hM1, hlen1, he1⟩
   simp only at hi hM1 hlen1 he1
   simp only [go_sem, qA, qB, qC, qD, qE, qF, qG, qH, hlen1]
   repeat refine K ?_
   refine qA1 (fun hc1 => ?_) (fun hc1 => ?_)
   rotate_left
   case _ =>
    simp only [decide_eq_false_iff_not] at hc1
    obtain rfl : i = n := by omega
    have he1' : M1 = rowM p (List.range i) M := by
     rw [← he1, List.drop_eq_nil_of_le (by simp)]
     rfl
    simp only [go_sem, qA, qB, qC, qD, qE, qF, qG, qH, qA4 (i := k) (by omega)]
    repeat refine K ?_
    refine qA5 (k + 1, M1) ?_ ⟨hk4, hM1, hlen1, by rw [← he]; simp only [restN]; rw [← he1']⟩ (by simp only; omega)
    refine Sub.trans (Sub.fold1 11 1 13 rfl (by simp [-gD] <;> omega) rfl (by decide) (by decide) rfl) ?_
    simp only [fS, fS2, qA, qC]
    refine Sub.shape [] id (by omega) ?_ ?_ ?_ ?_ <;> simp [qA3]
    all_goals exact fun e => absurd hlen1 e
   simp only [decide_eq_true_eq] at hc1
   have hin : i < n := by omega
   rw [drop_range hin] at he1
   simp only [go_sem, qA, qB, qC, qD, qE, qF, qG, qH]
   repeat refine K ?_
   refine qA6 (ι := Nat × Machine) (fun q => .mk [(2, .ptr 10 0 0), (3, .ptr 11 0 0), (4, .ptr 12 0 0), (5, .int .i64 k), (6, .int .i64 i), (7, .int .i64 q.1)] [(10, 2, [progC .bw p]), (11, 4, [machineC .own q.2]), (12, 4, [[.nil, .nil, .nil, .nil]])] 13) (fun q => q.1 ≤ 40 ∧ machineOk q.2 = true ∧ q.2.cores.length = n ∧ rst p i (40 - q.1) q.2 = rst p i 40 M1) (fun q => 40 - q.1) (0, M1) ⟨by simp, hM1, hlen1, rfl⟩ ?_ ?_
   ·refine Sub.trans (Sub.fold1 11 1 13 rfl (by simp [-gD] <;> omega) rfl (by decide) (by decide) rfl) ?_
    simp only [fS, fS2, qA, qC]
    refine Sub.shape [] id (by omega) ?_ ?_ ?_ ?_ <;> simp [qA3]
    all_goals exact fun e => absurd hlen1 e
   ·rintro ⟨j, M2⟩ ⟨hj, hM2, hlen2, he2⟩
    simp only at hj hM2 hlen2 he2
    have next : ∀ q, q = rst p i 40 M1 → rowM p ((List.range n).drop (i + 1)) q = rowM p (List.range n) M := fun q hq => by
     rw [← he1, hq]
     rfl
    by_cases hj40 : j < 40
    case neg =>
     have hn40 : ¬ (j : Int) < 40 := by omega
     have he3 : M2 = rst p i 40 M1 := by
      rw [← he2]
      have : 40 - j = 0 := by omega
      rw [this]
      rfl
     simp only [go_sem, qA, qB, qC, qD, qE, qF, qG, qH, hn40, qA4 (i := i) (by omega)]
     repeat refine K ?_
     refine qA5 (i + 1, M2) ?_ ⟨hin, hM2, hlen2, next _ he3⟩ (by simp only; omega)
     refine Sub.shape [] id (by omega) ?_ ?_ ?_ ?_ <;> simp [qA3]
    have hj40i : (j : Int) < 40 := by omega
    rw [sub_succ hj40] at he2
    have hil : i < M2.cores.length := by omega
    have hcg := qAg .own M2.cores i hil
    have hkk : M2.cores.getD i default = coreAt M2 i := rfl
    rw [hkk] at hcg
    by_cases hst : (coreAt M2 i).st = 0
    case neg =>
     have hgo : rstGo p M2 i = false := by simp [rstGo, hst]
     have he3 : M2 = rst p i 40 M1 := by
      rw [← he2]
      simp only [rst, hgo]
      rfl
     simp only [go_sem, qA, qB, qC, qD, qE, qF, qG, qH, hj40i, hcg, hst, qA4 (i := i) (by omega)]
     repeat refine K ?_
     refine qA5 (i + 1, M2) ?_ ⟨hin, hM2, hlen2, next _ he3⟩ (by simp only; omega)
     refine Sub.trans (Sub.fold1 11 1 13 rfl (by simp [-gD] <;> omega) rfl (by decide) (by decide) rfl) ?_
     simp only [fS, fS2, qA, qC]
     refine Sub.shape [] id (by omega) ?_ ?_ ?_ ?_ <;> simp [qA3]
    simp only [go_sem, qA, qB, qC, qD, qE, qF, qG, qH, hj40i, hcg, hst]
    repeat refine K ?_
    refine CA [] (specBetween_ok p M2 i hp (by omega)) ?_
    try simp only [go_sem, qA, qB, qC, qD, qE, qF, qG, qH]
    repeat refine K ?_
    cases hb : between p M2 i
    case true =>
     have hgo : rstGo p M2 i = false := by simp [rstGo, hb]
     have he3 : M2 = rst p i 40 M1 := by
      rw [← he2]
      simp only [rst, hgo]
      rfl
     try simp only [go_sem, qA, qB, qC, qD, qE, qF, qG, qH, hb, qA4 (i := i) (by omega)]
     repeat refine K ?_
     refine qA5 (i + 1, M2) ?_ ⟨hin, hM2, hlen2, next _ he3⟩ (by simp only; omega)
     refine Sub.trans (Sub.fold1 11 0 14 rfl (by simp [-gD] <;> omega) rfl (by decide) (by decide) rfl) ?_
     simp only [fS, fS2, qA, qC]
     refine Sub.trans (Sub.fold1 11 1 13 rfl (by simp [-gD] <;> omega) rfl (by decide) (by decide) rfl) ?_
     simp only [fS, fS2, qA, qC]
     refine Sub.trans (Sub.fold1 11 2 15 rfl (by simp [-gD] <;> omega) rfl (by decide) (by decide) rfl) ?_
     simp only [fS, fS2, qA, qC]
     refine Sub.trans (Sub.fold1 11 3 16 rfl (by simp [-gD] <;> omega) rfl (by decide) (by decide) rfl) ?_
     simp only [fS, fS2, qA, qC]
     refine Sub.shape [] id (by omega) ?_ ?_ ?_ ?_ <;> simp [qA3]
    have hgo : rstGo p M2 i = true := by simp [rstGo, hb, hst]
    try simp only [go_sem, qA, qB, qC, qD, qE, qF, qG, qH, hb]
    repeat refine K ?_
    have ha := l15Alone_ok M2 i 1 hM2 hil
    rw [maloneN_one] at ha
    refine CA [(0, 14), (1, 13), (2, 15), (3, 16)] (ha) ?_
    try simp only [go_sem, qA, qB, qC, qD, qE, qF, qG, qH]
    repeat refine K ?_
    have hM3 := mstep_ok ⟨i, 0⟩ hM2
    have hlen3 := (mstep_len M2 ⟨i, 0⟩).1
    have he3 : rst p i (40 - (j + 1)) (mstep M2 ⟨i, 0⟩).1 = rst p i 40 M1 := by
     rw [← he2]
     simp only [rst, hgo]
     simp
    try simp only [go_sem, qA, qB, qC, qD, qE, qF, qG, qH, qA4 (i := j) (by omega)]
    repeat refine K ?_
    refine qA5 (j + 1, (mstep M2 ⟨i, 0⟩).1) ?_ ⟨hj40, hM3, by rw [hlen3]; exact hlen2, he3⟩ (by simp only; omega)
    refine Sub.trans (Sub.fold1 11 0 17 rfl (by simp [-gD] <;> omega) rfl (by decide) (by decide) rfl) ?_
    simp only [fS, fS2, qA, qC]
    refine Sub.trans (Sub.fold1 11 1 18 rfl (by simp [-gD] <;> omega) rfl (by decide) (by decide) rfl) ?_
    simp only [fS, fS2, qA, qC]
    refine Sub.trans (Sub.fold1 11 2 19 rfl (by simp [-gD] <;> omega) rfl (by decide) (by decide) rfl) ?_
    simp only [fS, fS2, qA, qC]
    refine Sub.trans (Sub.fold1 11 3 20 rfl (by simp [-gD] <;> omega) rfl (by decide) (by decide) rfl) ?_
    simp only [fS, fS2, qA, qC]
    refine Sub.shape [] id (by omega) ?_ ?_ ?_ ?_ <;> simp [qA3]
end Go.Sep
