/- Contracts of functions. -/
import Derived.Test.YtjbknbgdfhihcaaGreatUL0
import Derived.Test.YtjbknbgdfhihcaaGreatURa1
namespace Go.Sep
open Go.Proofs
set_option linter.unusedSimpArgs false
set_option linter.unusedVariables false
set_option maxRecDepth 100000
open Nat renaming reduceAdd → qA, reduceMul → qB, reduceEqDiff → qC, reduceBEq → qD
open Int renaming reduceToNat → qE, reduceEq → qF, reduceLT → qG, reduceLE → qH
open List renaming getD_eq_getElem?_getD → gD
def m400 : MFn := ⟨22, [.cell 4 4 true], .seq (xr [xb 2 0, xb 3 1, xo 4 (.alloc [.nil, .nil, .nil, .nil])]) (.seq (.seq (xr [xm 5 4 3, xc1 6 233 (.t 5), xo 7 (.un .«not» (.t 6)), xv 8 7, xg 9 (.fad 1 (.t 3)) 8 false, xg 10 (.load 1 false (.t 9)) 8 false, xg 11 (.len (.t 10)) 8 false, xg 12 (.fad 1 (.t 2)) 8 false, xg 13 (.load 1 false (.t 12)) 8 false, xg 14 (.len (.t 13)) 8 false, xg 15 (.bin .neq (.t 11) (.t 14)) 8 false, xo 16 (.pick (.t 8) (.c (.bool true)) (.t 15))]) (.cond 16 (.seq (xr [xo 17 (.build [.nil, .nil, .nil, .nil] []), ⟨none, .store 4 (.t 4) (.t 17), none⟩]) (.ret)) (.skip))) (.seq (.dreg (.take 0 (xm 18 2 2) (.only 1 [] (xm 19 4 3) (.only 2 [] (xc1 20 356 (.t 19)) (.only 3 [0] (xo 21 (.call 425 [false, true] [.t 18, .t 20])) (.only 4 [0] ⟨none, .store 4 (.t 4) (.t 21), none⟩ (.done))))))) (.ret)))⟩
def m401 : MFn := ⟨16, [.cell 4 4 true], .seq (xr [xb 2 0, xb 3 1, xo 4 (.alloc [.nil, .nil, .nil, .nil])]) (.seq (.seq (xr [xm 6 2 2, xm 7 4 3, xc2 8 426 (.t 6) (.t 7), xo 9 (.un .«not» (.t 8))]) (.cond 9 (.seq (xr [xo 10 (.build [.nil, .nil, .nil, .nil] []), ⟨none, .store 4 (.t 4) (.t 10), none⟩]) (.ret)) (.skip))) (.seq (xr [xm 11 4 3, xc1 12 358 (.t 11), xo 5 (.alloc [.nil, .nil, .nil, .nil]), ⟨none, .store 4 (.t 5) (.t 12), none⟩]) (.seq (xr [xm 13 2 2, xo 14 (.call 427 [true, false] [.t 5, .t 13])]) (.seq (xr [xm 15 4 5, ⟨none, .store 4 (.t 4) (.t 15), none⟩]) (.ret)))))⟩
def m426 : MFn := ⟨16, [.t 4], .seq (xr [xb 2 0, xb 3 1, xF 4]) (.seq (xr [xm 5 4 3, xc1 6 235 (.t 5), xv 7 6, xg 8 (.fad 1 (.t 3)) 7 true, xg 9 (.load 1 false (.t 8)) 7 true, xg 10 (.len (.t 9)) 7 true, xg 11 (.fad 1 (.t 2)) 7 true, xg 12 (.load 1 false (.t 11)) 7 true, xg 13 (.len (.t 12)) 7 true, xg 14 (.bin .eql (.t 10) (.t 13)) 7 true, xo 15 (.pick (.t 7) (.t 14) (.c (.bool false))), xv 4 15]) (.ret))⟩
def restR (p : Prog) (m : Machine) : Machine := if machineOk m && decide (m.cores.length = p.bods.length) then restN p m.cores.length 4 m else nilM
theorem restR_z (p : Prog) (m : Machine) : zMachine (restR p m) ≤ 4000000 := by
 unfold restR
 split
 ·rename_i h
  simp only [Bool.and_eq_true] at h
  exact machineOk_z (restN_ok p _ 4 h.1).1
 ·decide
theorem restable_ok (p : Prog) (m : Machine) (hm : SmallM m) : CallOk Tryz.prog num 426 [.agg (progC .bw p), .agg (machineC .bw m)] [] (.bool (machineOk m && decide (m.cores.length = p.bods.length))) := by
 refine EN m426 Tryz.func109 ?_
 unfold m426
 simp only [go_sem, qA, qB, qC, qD, qE, qF, qG, qH]
 repeat refine K ?_
 refine CA [] (implMachineOk_ok m hm) ?_
 try simp only [go_sem, qA, qB, qC, qD, qE, qF, qG, qH]
 repeat refine K ?_
 cases hok : machineOk m
 ·try simp only [go_sem, qA, qB, qC, qD, qE, qF, qG, qH, hok]
  repeat refine K ?_
  refine fz ?_; simp [FinS, nilL, nilV, oneOr, -List.drop_one]
 by_cases hl : (m.cores.length : Int) = p.bods.length
 ·try simp only [go_sem, qA, qB, qC, qD, qE, qF, qG, qH, hok, hl]
  repeat refine K ?_
  refine fz ?_; simp [FinS, nilL, nilV, oneOr, -List.drop_one]
  omega
 ·try simp only [go_sem, qA, qB, qC, qD, qE, qF, qG, qH, hok, hl]
  repeat refine K ?_
  refine fz ?_; simp [FinS, nilL, nilV, oneOr, -List.drop_one]
  omega
theorem implRestTop_ok (p : Prog) (m : Machine) (hp : SmallP p) (hm : SmallM m) : CallOk Tryz.prog num 401 [.agg (progC .bw p), .agg (machineC .bw m)] [] (.agg (machineC .own (restR p m))) := by
 refine EN m401 Tryz.func40 ?_
 unfold m401
 simp only [go_sem, qA, qB, qC, qD, qE, qF, qG, qH]
 repeat refine K ?_
 refine CA [] (restable_ok p m hm) ?_
 try simp only [go_sem, qA, qB, qC, qD, qE, qF, qG, qH]
 repeat refine K ?_
 cases hok : (machineOk m && decide (m.cores.length = p.bods.length))
 ·have hr : restR p m = nilM := by unfold restR; rw [hok]; rfl
  rw [hr]
  try simp only [go_sem, qA, qB, qC, qD, qE, qF, qG, qH, hok]
  repeat refine K ?_
  refine ⟨_, Sub.refl _, qAe ?_⟩; simp [-List.drop_one]
  simp [nilM]
 have hr : restR p m = restN p m.cores.length 4 m := by unfold restR; rw [hok]; rfl
 rw [hr]
 have hMo : machineOk m = true := by simp only [Bool.and_eq_true] at hok; exact hok.1
 try simp only [go_sem, qA, qB, qC, qD, qE, qF, qG, qH, hok]
 repeat refine K ?_
 refine CA [] (copyMachine_ok m hm) ?_
 try simp only [go_sem, qA, qB, qC, qD, qE, qF, qG, qH]
 repeat refine K ?_
 try simp only [go_sem, qA, qB, qC, qD, qE, qF, qG, qH]
 repeat refine K ?_
 apply qC5
 ·refine Sub.trans (Sub.fold1 17 0 13 rfl (by simp [-gD] <;> omega) rfl (by decide) (by decide) rfl) ?_
  simp only [fS, fS2, qA, qC]
  refine Sub.trans (Sub.fold1 17 1 14 rfl (by simp [-gD] <;> omega) rfl (by decide) (by decide) rfl) ?_
  simp only [fS, fS2, qA, qC]
  refine Sub.trans (Sub.fold1 17 2 15 rfl (by simp [-gD] <;> omega) rfl (by decide) (by decide) rfl) ?_
  simp only [fS, fS2, qA, qC]
  refine Sub.trans (Sub.fold1 17 3 16 rfl (by simp [-gD] <;> omega) rfl (by decide) (by decide) rfl) ?_
  simp only [fS, fS2, qA, qC]
  exact Sub.refl _
 refine CA [(0, 17)] (implRest_ok p m hp hMo) ?_
 try simp only [go_sem, qA, qB, qC, qD, qE, qF, qG, qH]
 repeat refine K ?_
 try simp only [go_sem, qA, qB, qC, qD, qE, qF, qG, qH]
 repeat refine K ?_
 refine ⟨_, Sub.refl _, qAe ?_⟩; simp [-List.drop_one]
theorem specRestTop_ok (p : Prog) (m : Machine) (hp : SmallP p) (hm : SmallM m) : CallOk Tryz.prog num 400 [.agg (progC .bw p), .agg (machineC .bw m)] [] (.agg (machineC .own (restR p m))) := by
 refine EN m400 Tryz.func39 ?_
 unfold m400
 simp only [go_sem, qA, qB, qC, qD, qE, qF, qG, qH]
 repeat refine K ?_
 refine CA [] (specMachineOk_ok m hm) ?_
 try simp only [go_sem, qA, qB, qC, qD, qE, qF, qG, qH]
 repeat refine K ?_
 cases hok : machineOk m
 ·have hr : restR p m = nilM := by unfold restR; rw [hok]; rfl
  rw [hr]
  try simp only [go_sem, qA, qB, qC, qD, qE, qF, qG, qH, hok]
  repeat refine K ?_
  refine ⟨_, Sub.refl _, qAe ?_⟩; simp [-List.drop_one]
  simp [nilM]
 by_cases hl : (m.cores.length : Int) = p.bods.length
 case neg =>
  have hl' : ¬ m.cores.length = p.bods.length := by omega
  have hr : restR p m = nilM := by simp [restR, hl']
  rw [hr]
  try simp only [go_sem, qA, qB, qC, qD, qE, qF, qG, qH, hok, hl]
  repeat refine K ?_
  refine ⟨_, Sub.refl _, qAe ?_⟩; simp [-List.drop_one]
  simp [nilM]
 have hl' : m.cores.length = p.bods.length := by omega
 have hr : restR p m = restN p m.cores.length 4 m := by simp [restR, hok, hl']
 rw [hr]
 try simp only [go_sem, qA, qB, qC, qD, qE, qF, qG, qH, hok, hl]
 repeat refine K ?_
 refine DA [] (l8Copy_ok m hm) ?_
 try simp only [go_sem, qA, qB, qC, qD, qE, qF, qG, qH]
 repeat refine K ?_
 refine DA [(0, 13), (1, 14), (2, 15), (3, 16)] (l15Rest_ok p m hp hok) ?_
 try simp only [go_sem, qA, qB, qC, qD, qE, qF, qG, qH]
 repeat refine K ?_
 try simp only [go_sem, qA, qB, qC, qD, qE, qF, qG, qH]
 repeat refine K ?_
 refine ⟨_, Sub.refl _, qAe ?_⟩; simp [-List.drop_one]
end Go.Sep
