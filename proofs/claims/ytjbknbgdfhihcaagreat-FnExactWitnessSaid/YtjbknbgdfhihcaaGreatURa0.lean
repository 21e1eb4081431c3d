/- Contracts of functions. -/
import Derived.Test.YtjbknbgdfhihcaaGreatUh0
import Derived.Test.YtjbknbgdfhihcaaGreatUWc0
import Derived.Test.YtjbknbgdfhihcaaGreatUX0
namespace Go.Sep
open Go.Proofs
set_option linter.unusedSimpArgs false
set_option linter.unusedVariables false
set_option maxRecDepth 100000
open Nat renaming reduceAdd → qA, reduceMul → qB, reduceEqDiff → qC, reduceBEq → qD
open Int renaming reduceToNat → qE, reduceEq → qF, reduceLT → qG, reduceLE → qH
open List renaming getD_eq_getElem?_getD → gD
def m428 : MFn := ⟨57, [.t 6, .t 7], .seq (xr [xb 3 0, xb 5 2, xo 6 (.mv (xi 0)), xF 7]) (.seq (.seq (xr [xv 10 1, xa 11 0 5, xl 12 11, xc2 13 229 (.t 10) (.t 12), xo 14 (.un .«not» (.t 13))]) (.cond 14 (.seq (xr [xo 6 (.mv (xi 2)), xF 7]) (.ret)) (.skip))) (.seq (.dreg (.take 0 (xv 15 1) (.take 1 (xk 16 15) (.take 2 (xa 17 1 16) (.take 3 (xl 18 17) (.only 4 [] (xa 19 0 5) (.only 5 [] (xl 20 19) (.only 6 [3, 2, 1, 0] (xo 21 (.iad 4 (.t 18) (.t 20))) (.only 7 [6, 3, 2, 1, 0] (xa 22 0 21) (.only 8 [7, 6, 3, 2, 1, 0] (xl 23 22) (.only 9 [0, 1, 2, 3] (xv 8 23) (.done)))))))))))) (.seq (xr [xv 24 1, xm 25 2 5, xo 26 (.call 359 [true, false] [.t 24, .t 25]), xv 9 26]) (.seq (.dreg (.take 0 (xv 27 9) (.only 1 [] (xv 28 9) (.only 2 [] (xo 29 (.bin .eql (.t 28) (xi 0))) (.only 3 [] (xv 30 29) (.take 4 (xg 31 (.load 2 true (.t 3)) 30 true) (.take 5 (xg 32 (.mv (.t 1)) 30 true) (.take 6 (xg 33 (.nilck (.t 32)) 30 true) (.take 7 (xg 34 (.fad 0 (.t 33)) 30 true) (.take 8 (xg 35 (.load 1 false (.t 34)) 30 true) (.take 9 (xg 36 (.fad 0 (.t 5)) 30 true) (.take 10 (xg 37 (.load 1 false (.t 36)) 30 true) (.take 11 (xg 38 (.iad 1 (.t 35) (.t 37)) 30 true) (.take 12 (xg 39 (.load 1 false (.t 38)) 30 true) (.take 13 (xg 40 (.mv (.t 8)) 30 true) (.take 14 (xg 41 (.iad 5 (.t 39) (.t 40)) 30 true) (.take 15 (xg 42 (.load 5 true (.t 41)) 30 true) (.take 16 (xg 43 (.mv (.t 1)) 30 true) (.take 17 (xg 44 (.nilck (.t 43)) 30 true) (.take 18 (xg 45 (.fad 1 (.t 44)) 30 true) (.take 19 (xg 46 (.load 1 false (.t 45)) 30 true) (.take 20 (xg 47 (.fad 0 (.t 5)) 30 true) (.take 21 (xg 48 (.load 1 false (.t 47)) 30 true) (.take 22 (xg 49 (.iad 4 (.t 46) (.t 48)) 30 true) (.take 23 (xg 50 (.fad 1 (.t 49)) 30 true) (.take 24 (xg 51 (.load 1 false (.t 50)) 30 true) (.take 25 (xg 52 (.fad 0 (.t 5)) 30 true) (.take 26 (xg 53 (.load 1 false (.t 52)) 30 true) (.only 27 [] (xg 54 (.mv (.t 8)) 30 true) (.only 28 [4, 15, 24, 26, 14, 23, 25, 12, 13, 22, 11, 19, 21, 8, 10, 18, 20, 7, 9, 17, 6, 16, 5] (xg 55 (.call 236 [false, false, false, false, false] [.t 31, .t 42, .t 51, .t 53, .t 54]) 30 true) (.take 29 (xo 56 (.pick (.t 30) (.t 55) (.c (.bool false)))) (.only 30 [0, 28, 4, 15, 24, 26, 14, 23, 25, 12, 13, 22, 11, 19, 21, 8, 10, 18, 20, 7, 9, 17, 6, 16, 5] (xv 6 27) (.only 31 [0, 4, 5, 6, 7, 8, 9, 10, 11, 12, 13, 14, 15, 16, 17, 18, 19, 20, 21, 22, 23, 24, 25, 26, 29] (xv 7 56) (.done)))))))))))))))))))))))))))))))))) (.ret)))))⟩
set_option maxHeartbeats 4000000 in
theorem implWitnessed_ok (p : Prog) (m : Machine) (x : Pick) (hp : SmallP p) (h : machineOk m = true) (hx : pkOk x) : CallOk Tryz.prog num 428 [.agg (progC .bw p), .ptr 0 0 0, .agg (pickC x)] [(0, some (4, [machineC .own m]), some (4, [machineC .own (mstep m x).1]))] (.tup [.int .i64 (mstep m x).2, .bool (did p m x)]) := by
 refine EH m428 Tryz.func116 ?_
 unfold m428
 have hM := (qBa m).1 h
 have hc0 := hM.cores
 have hn4 := hM.n4
 simp only [go_sem, qA, qB, qC, qD, qE, qF, qG, qH]
 repeat refine K ?_
 refine CA [] (isCore_ok m x.who (by omega)) ?_
 try simp only [go_sem, qA, qB, qC, qD, qE, qF, qG, qH]
 repeat refine K ?_
 cases hw : within x.who 0 (m.cores.length - 1)
 ·have hn : mstep m x = (m, 2) := mstep_none hw
  have hd : did p m x = false := by unfold did; rw [hn]; rfl
  rw [hn, hd]
  try simp only [go_sem, qA, qB, qC, qD, qE, qF, qG, qH, hw]
  repeat refine K ?_
  apply qAi (by simp)
  ·exact Sub.refl _
  ·simp [-List.drop_one, -gD, machineC] <;> (first | rfl | exact ⟨rfl, rfl⟩ | exact ⟨rfl, rfl, rfl⟩ | skip)
 have hw' := within_iff.1 hw
 obtain ⟨j, hj⟩ := Int.eq_ofNat_of_zero_le hw'.1
 obtain ⟨who, late⟩ := x
 simp only at hj hw'
 subst hj
 have hjl : j < m.cores.length := by omega
 have hcg := qAj .own m.cores j hjl
 have hk : m.cores.getD j default = coreAt m j := rfl
 rw [hk] at hcg
 try simp only [go_sem, qA, qB, qC, qD, qE, qF, qG, qH, hw, hcg]
 repeat refine K ?_
 apply qC5
 ·refine Sub.trans (Sub.fold1 0 1 12 rfl (by simp [-gD] <;> omega) rfl (by decide) (by decide) rfl) ?_
  simp only [fS, fS2, qA, qC]
  exact Sub.refl _
 refine CA [(0, 0)] (implStep_ok m ⟨j, late⟩ h hx) ?_
 try simp only [go_sem, qA, qB, qC, qD, qE, qF, qG, qH]
 repeat refine K ?_
 have hMs := mstep_ok ⟨j, late⟩ h
 have hlen := mstep_len m ⟨j, late⟩
 have hdid : did p m ⟨j, late⟩ = (decide ((mstep m ⟨j, late⟩).2 = 0) && commitsI p (stepAt m j) (coreAt (mstep m ⟨j, late⟩).1 j).regs j (coreAt m j).at_) := rfl
 rw [hdid]
 have hK := hM.core j hjl
 have e1 := hK.at0
 have e2 := hK.at1
 have hcdj : j < m.codes.length := by omega
 have hat : (coreAt m j).at_.toNat < (m.codes.getD j []).length := by omega
 have hsg := qBg (m.codes.getD j []) (coreAt m j).at_.toNat hat
 have hss : (m.codes.getD j []).getD (coreAt m j).at_.toNat default = stepAt m j := rfl
 rw [hss] at hsg
 generalize mstep m ⟨j, late⟩ = w at *
 obtain ⟨M, code⟩ := w
 simp only at hMs hlen ⊢
 obtain ⟨hl1, hl2⟩ := hlen
 have hM2 := (qBa M).1 hMs
 have hjl2 : j < M.cores.length := by omega
 have hcdj2 : j < M.codes.length := by rw [hl2]; exact hcdj
 have hcg2 := qAj .own M.cores j hjl2
 have hk2 : M.cores.getD j default = coreAt M j := rfl
 rw [hk2] at hcg2
 have hdg2 := qBc .own M.codes j hcdj2
 rw [hl2] at hdg2
 have hr8 := (hM2.core j hjl2).regs
 by_cases hcd : code = 0
 case neg =>
  have hd : decide (code = 0) = false := by simpa using hcd
  rw [hd, Bool.false_and]
  try simp only [go_sem, qA, qB, qC, qD, qE, qF, qG, qH, hcd]
  repeat refine K ?_
  apply qAi (by simp)
  ·exact Sub.refl _
  ·simp [-List.drop_one, -gD, machineC] <;> (first | rfl | exact ⟨rfl, rfl⟩ | exact ⟨rfl, rfl, rfl⟩ | skip)
 have hd : decide (code = 0) = true := by simpa using hcd
 rw [hd, Bool.true_and]
 subst hcd
 have hdself : (codes .own m.codes).set j [.sl .own 5 (steps (m.codes.getD j []))] = codes .own m.codes := by rw [← hdg2, qAb _ _ _ (by rw [qBo]; exact hcdj)]
 have hcself : (cores .own M.cores).set j [.int .i64 (coreAt M j).at_, .sl .own 1 (ints (coreAt M j).regs), .sl .own 1 (ints (coreAt M j).view), .int .i64 (coreAt M j).st] = cores .own M.cores := by rw [← hcg2, qAb _ _ _ (by rw [qAp]; exact hjl2)]
 try simp only [go_sem, qA, qB, qC, qD, qE, qF, qG, qH, hcg2, hdg2, hsg, hl2]
 repeat refine K ?_
 refine DA [] (implCommitsOf_ok p (stepAt m j) (coreAt M j).regs j (coreAt m j).at_ hp (by omega) (by omega)) ?_
 try simp only [go_sem, qA, qB, qC, qD, qE, qF, qG, qH]
 repeat refine K ?_
 try simp only [go_sem, qA, qB, qC, qD, qE, qF, qG, qH, hcg2, hdg2, hsg, hl2]
 repeat refine K ?_
 apply qAi (by simp)
 ·repeat' ((first | refine FA 13 0 14 ?_ | refine FA 15 1 16 ?_ | refine F1 0 0 13 ?_ | refine F1 0 1 15 ?_ | fail); simp only [fS, fS2, fS2, qA, qC, hdself, hcself])
  exact Sub.refl _
 ·simp [-List.drop_one, -gD, machineC, hl2] <;> (first | rfl | exact ⟨rfl, rfl⟩ | exact ⟨rfl, rfl, rfl⟩ | skip)
end Go.Sep
