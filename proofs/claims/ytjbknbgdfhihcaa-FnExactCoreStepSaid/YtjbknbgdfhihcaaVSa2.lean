/- Contracts of functions. -/
import Derived.Test.YtjbknbgdfhihcaaVh0
import Derived.Test.YtjbknbgdfhihcaaVL0
import Derived.Test.YtjbknbgdfhihcaaVX2
namespace Go.Sep
open Go.Proofs
set_option linter.unusedSimpArgs false
set_option linter.unusedVariables false
set_option maxRecDepth 100000
open Nat renaming reduceAdd → qA, reduceMul → qB, reduceEqDiff → qC, reduceBEq → qD
open Int renaming reduceToNat → qE, reduceEq → qF, reduceLT → qG, reduceLE → qH
open List renaming getD_eq_getElem?_getD → gD
def m349 : MFn := ⟨46, [.cell 4 4 true, .t 5], .seq (xr [xb 2 0, xb 3 1, xo 4 (.alloc [.nil, .nil, .nil, .nil]), xo 5 (.mv (xi 0))]) (.seq (.seq (xr [xm 8 4 2, xc1 9 233 (.t 8), xo 10 (.un .«not» (.t 9))]) (.cond 10 (.seq (xr [xo 11 (.build [.nil, .nil, .nil, .nil] []), ⟨none, .store 4 (.t 4) (.t 11), none⟩, xo 5 (.mv (xi 1))]) (.ret)) (.skip))) (.seq (.seq (xr [xa 12 0 3, xl 13 12, xa 14 1 2, xl 15 14, xe 16 15, xo 17 (.bin .sub (.t 16) (xi 1)), xc3 18 64 (.t 13) (xi 0) (.t 17), xo 19 (.un .«not» (.t 18))]) (.cond 19 (.seq (xr [xm 20 4 2, xc1 21 356 (.t 20), ⟨none, .store 4 (.t 4) (.t 21), none⟩, xo 5 (.mv (xi 2))]) (.ret)) (.skip))) (.seq (.seq (xr [xa 22 1 2, xl 23 22, xa 24 0 3, xl 25 24, xo 26 (.iad 4 (.t 23) (.t 25)), xa 27 3 26, xl 28 27, xo 29 (.bin .neq (.t 28) (xi 0))]) (.cond 29 (.seq (xr [xm 30 4 2, xc1 31 356 (.t 30), ⟨none, .store 4 (.t 4) (.t 31), none⟩, xo 5 (.mv (xi 3))]) (.ret)) (.skip))) (.seq (.dreg (.take 0 (xm 33 4 2) (.take 2 (xm 35 2 3) (.both 1 [0] (xc1 34 356 (.t 33)) (.both 3 [1, 2, 0] (xo 36 (.call 357 [true, false] [.t 34, .t 35])) (.take 4 (xv 32 36) (.take 5 (xo 37 (.ext (.t 32) 0)) (.take 6 (xo 38 (.ext (.t 32) 1)) (.only 7 [] (xo 6 (.alloc [.nil, .nil, .nil, .nil])) (.only 8 [0, 2, 4, 5] ⟨none, .store 4 (.t 6) (.t 37), none⟩ (.only 9 [0, 2, 4, 5, 6] (xv 7 38) (.done))))))) 7 [] (xo 6 (.alloc [.nil, .nil, .nil, .nil])) (.only 3 [1, 2, 0] (xo 36 (.call 357 [true, false] [.t 34, .t 35])) (.only 4 [3, 1, 2, 0] (xv 32 36) (.take 5 (xo 37 (.ext (.t 32) 0)) (.take 6 (xo 38 (.ext (.t 32) 1)) (.only 8 [0, 2, 5] ⟨none, .store 4 (.t 6) (.t 37), none⟩ (.only 9 [0, 2, 5, 6] (xv 7 38) (.done)))))))) 7 [] (xo 6 (.alloc [.nil, .nil, .nil, .nil])) (.only 1 [0] (xc1 34 356 (.t 33)) (.only 3 [1, 2, 0] (xo 36 (.call 357 [true, false] [.t 34, .t 35])) (.only 4 [3, 1, 2, 0] (xv 32 36) (.take 5 (xo 37 (.ext (.t 32) 0)) (.take 6 (xo 38 (.ext (.t 32) 1)) (.only 8 [0, 2, 5] ⟨none, .store 4 (.t 6) (.t 37), none⟩ (.only 9 [0, 2, 5, 6] (xv 7 38) (.done)))))))))))) (.seq (.seq (xr [xv 39 7, xo 40 (.bin .neq (.t 39) (xi 0))]) (.cond 40 (.seq (xr [xm 41 4 2, xc1 42 356 (.t 41), xv 43 7, ⟨none, .store 4 (.t 4) (.t 42), none⟩, xv 5 43]) (.ret)) (.skip))) (.seq (xr [xm 44 4 6, xv 45 7, ⟨none, .store 4 (.t 4) (.t 44), none⟩, xv 5 45]) (.ret)))))))⟩
def m350 : MFn := ⟨18, [.cell 4 4 true, .t 5], .seq (xr [xb 2 0, xb 3 1, xo 4 (.alloc [.nil, .nil, .nil, .nil]), xo 5 (.mv (xi 0))]) (.seq (.seq (xr [xm 8 4 2, xc1 9 235 (.t 8), xo 10 (.un .«not» (.t 9))]) (.cond 10 (.seq (xr [xo 11 (.build [.nil, .nil, .nil, .nil] []), ⟨none, .store 4 (.t 4) (.t 11), none⟩, xo 5 (.mv (xi 1))]) (.ret)) (.skip))) (.seq (xr [xm 12 4 2, xc1 13 358 (.t 12), xo 6 (.alloc [.nil, .nil, .nil, .nil]), ⟨none, .store 4 (.t 6) (.t 13), none⟩]) (.seq (xr [xm 14 2 3, xo 15 (.call 359 [true, false] [.t 6, .t 14]), xv 7 15]) (.seq (xr [xm 16 4 6, xv 17 7, ⟨none, .store 4 (.t 4) (.t 16), none⟩, xv 5 17]) (.ret)))))⟩
def coreStep (m : Machine) (x : Pick) : Machine × Int := if machineOk m then mstep m x else (nilM, 1)
theorem coreStep_z {m : Machine} {x : Pick} : zMachine (coreStep m x).1 ≤ 4000000 := by
 unfold coreStep
 split
 ·rename_i h
  exact machineOk_z (mstep_ok x h)
 ·decide
theorem implCoreStep_ok (m : Machine) (x : Pick) (hm : SmallM m) (hx : pkOk x) : CallOk Try.prog num 350 [.agg (machineC .bw m), .agg (pickC x)] [] (.tup [.agg (machineC .own (coreStep m x).1), .int .i64 (coreStep m x).2]) := by
 refine EN m350 Try.func10 ?_
 unfold m350
 simp only [go_sem, qA, qB, qC, qD, qE, qF, qG, qH]
 repeat refine K ?_
 refine CA [] (implMachineOk_ok m hm) ?_
 try simp only [go_sem, qA, qB, qC, qD, qE, qF, qG, qH]
 repeat refine K ?_
 cases hok : machineOk m
 ·have hr : coreStep m x = (nilM, 1) := by simp [coreStep, hok]
  rw [hr]
  try simp only [go_sem, qA, qB, qC, qD, qE, qF, qG, qH, hok]
  repeat refine K ?_
  refine ⟨_, Sub.refl _, qBq (by simp) ?_⟩; simp [-List.drop_one]
  simp [nilM]
 have hr : coreStep m x = mstep m x := by simp [coreStep, hok]
 rw [hr]
 try simp only [go_sem, qA, qB, qC, qD, qE, qF, qG, qH, hok]
 repeat refine K ?_
 refine CA [] (copyMachine_ok m hm) ?_
 try simp only [go_sem, qA, qB, qC, qD, qE, qF, qG, qH]
 repeat refine K ?_
 try simp only [go_sem, qA, qB, qC, qD, qE, qF, qG, qH]
 repeat refine K ?_
 apply qCr
 ·refine Sub.trans (Sub.fold1 17 0 13 rfl (by simp [-gD] <;> omega) rfl (by decide) (by decide) rfl) ?_
  simp only [fS, fS2, qA, qC]
  refine Sub.trans (Sub.fold1 17 1 14 rfl (by simp [-gD] <;> omega) rfl (by decide) (by decide) rfl) ?_
  simp only [fS, fS2, qA, qC]
  refine Sub.trans (Sub.fold1 17 2 15 rfl (by simp [-gD] <;> omega) rfl (by decide) (by decide) rfl) ?_
  simp only [fS, fS2, qA, qC]
  refine Sub.trans (Sub.fold1 17 3 16 rfl (by simp [-gD] <;> omega) rfl (by decide) (by decide) rfl) ?_
  simp only [fS, fS2, qA, qC]
  exact Sub.refl _
 refine CA [(0, 17)] (implStep_ok m x hok hx) ?_
 try simp only [go_sem, qA, qB, qC, qD, qE, qF, qG, qH]
 repeat refine K ?_
 try simp only [go_sem, qA, qB, qC, qD, qE, qF, qG, qH]
 repeat refine K ?_
 refine ⟨_, Sub.refl _, qBq (by simp) ?_⟩; simp [-List.drop_one]
set_option maxHeartbeats 4000000 in
theorem specCoreStep_ok (m : Machine) (x : Pick) (hm : SmallM m) (hx : pkOk x) : CallOk Try.prog num 349 [.agg (machineC .bw m), .agg (pickC x)] [] (.tup [.agg (machineC .own (coreStep m x).1), .int .i64 (coreStep m x).2]) := by
 refine EN m349 Try.func7 ?_
 unfold m349
 simp only [go_sem, qA, qB, qC, qD, qE, qF, qG, qH]
 repeat refine K ?_
 refine CA [] (specMachineOk_ok m hm) ?_
 try simp only [go_sem, qA, qB, qC, qD, qE, qF, qG, qH]
 repeat refine K ?_
 cases hok : machineOk m
 ·have hr : coreStep m x = (nilM, 1) := by simp [coreStep, hok]
  rw [hr]
  try simp only [go_sem, qA, qB, qC, qD, qE, qF, qG, qH, hok]
  repeat refine K ?_
  refine ⟨_, Sub.refl _, qBq (by simp) ?_⟩; simp [-List.drop_one]
  simp [nilM]
 have hr : coreStep m x = mstep m x := by simp [coreStep, hok]
 rw [hr]
 have hM := (qC0 m).1 hok
 have hc0 := hM.cores
 have hn4 := hM.n4
 have w1 : IntKind.i64.wrap ((m.cores.length : Int) - 1) = m.cores.length - 1 := qAs (by omega) (by omega)
 try simp only [go_sem, qA, qB, qC, qD, qE, qF, qG, qH, hok, w1]
 repeat refine K ?_
 refine CA [] (qAy x.who 0 (m.cores.length - 1)) ?_
 try simp only [go_sem, qA, qB, qC, qD, qE, qF, qG, qH]
 repeat refine K ?_
 cases hw : within x.who 0 (m.cores.length - 1)
 ·rw [mstep_none hw]
  try simp only [go_sem, qA, qB, qC, qD, qE, qF, qG, qH, hw]
  repeat refine K ?_
  refine CA [] (qCc m hm) ?_
  try simp only [go_sem, qA, qB, qC, qD, qE, qF, qG, qH]
  repeat refine K ?_
  try simp only [go_sem, qA, qB, qC, qD, qE, qF, qG, qH]
  repeat refine K ?_
  refine ⟨_, Sub.refl _, qBq (by simp) ?_⟩; simp [-List.drop_one]
 have hw' := within_iff.1 hw
 obtain ⟨j, hj⟩ := Int.eq_ofNat_of_zero_le hw'.1
 obtain ⟨who, late⟩ := x
 simp only at hj hw'
 subst hj
 have hjl : j < m.cores.length := by omega
 have hcg := qAl .bw m.cores j hjl
 have hk : m.cores.getD j default = coreAt m j := rfl
 rw [hk] at hcg
 by_cases hst : (coreAt m j).st = 0
 case neg =>
  rw [qCk (late := late) rfl rfl hjl (.inl (.inl hst))]
  try simp only [go_sem, qA, qB, qC, qD, qE, qF, qG, qH, hw, hcg, hst]
  repeat refine K ?_
  refine CA [] (qCc m hm) ?_
  try simp only [go_sem, qA, qB, qC, qD, qE, qF, qG, qH]
  repeat refine K ?_
  try simp only [go_sem, qA, qB, qC, qD, qE, qF, qG, qH]
  repeat refine K ?_
  refine ⟨_, Sub.refl _, qBq (by simp) ?_⟩; simp [-List.drop_one]
 try simp only [go_sem, qA, qB, qC, qD, qE, qF, qG, qH, hw, hcg, hst]
 repeat refine K ?_
 by_cases hcd : (mstep m ⟨j, late⟩).2 = 0
 ·have hA := l8Step_ok m j late hM hjl hst hcd hx
  rw [hcd]
  refine And.intro ?_ ?_
  ·try simp only [go_sem, qA, qB, qC, qD, qE, qF, qG, qH]
   repeat refine K ?_
   refine DA [] (qCc m hm) ?_
   try simp only [go_sem, qA, qB, qC, qD, qE, qF, qG, qH]
   repeat refine K ?_
   refine And.intro ?_ ?_
   ·try simp only [go_sem, qA, qB, qC, qD, qE, qF, qG, qH]
    repeat refine K ?_
    refine DA [(0, 13), (1, 14), (2, 15), (3, 16)] hA ?_
    try simp only [go_sem, qA, qB, qC, qD, qE, qF, qG, qH]
    repeat refine K ?_
    refine ⟨_, Sub.refl _, qBq (by simp) ?_⟩; simp [-List.drop_one]
   ·try simp only [go_sem, qA, qB, qC, qD, qE, qF, qG, qH]
    repeat refine K ?_
    refine DA [(0, 13), (1, 14), (2, 15), (3, 16)] hA ?_
    try simp only [go_sem, qA, qB, qC, qD, qE, qF, qG, qH]
    repeat refine K ?_
    refine ⟨_, Sub.refl _, qBq (by simp) ?_⟩; simp [-List.drop_one]
  ·try simp only [go_sem, qA, qB, qC, qD, qE, qF, qG, qH]
   repeat refine K ?_
   refine DA [] (qCc m hm) ?_
   try simp only [go_sem, qA, qB, qC, qD, qE, qF, qG, qH]
   repeat refine K ?_
   refine DA [(0, 14), (1, 15), (2, 16), (3, 17)] hA ?_
   try simp only [go_sem, qA, qB, qC, qD, qE, qF, qG, qH]
   repeat refine K ?_
   refine ⟨_, Sub.refl _, qBq (by simp) ?_⟩; simp [-List.drop_one]
 ·have hB := l8StepB_ok m j late hM hjl hst hcd hx
  rw [mstep_no hcd, mstep_three hjl hcd]
  refine And.intro ?_ ?_
  ·try simp only [go_sem, qA, qB, qC, qD, qE, qF, qG, qH]
   repeat refine K ?_
   refine DA [] (qCc m hm) ?_
   try simp only [go_sem, qA, qB, qC, qD, qE, qF, qG, qH]
   repeat refine K ?_
   refine And.intro ?_ ?_
   ·try simp only [go_sem, qA, qB, qC, qD, qE, qF, qG, qH]
    repeat refine K ?_
    refine DA [(0, 13), (1, 14), (2, 15), (3, 16)] hB ?_
    try simp only [go_sem, qA, qB, qC, qD, qE, qF, qG, qH]
    repeat refine K ?_
    refine CA [] (qCc m hm) ?_
    try simp only [go_sem, qA, qB, qC, qD, qE, qF, qG, qH]
    repeat refine K ?_
    refine ⟨_, Sub.refl _, qBq (by simp) ?_⟩; simp [-List.drop_one]
   ·try simp only [go_sem, qA, qB, qC, qD, qE, qF, qG, qH]
    repeat refine K ?_
    refine DA [(0, 13), (1, 14), (2, 15), (3, 16)] hB ?_
    try simp only [go_sem, qA, qB, qC, qD, qE, qF, qG, qH]
    repeat refine K ?_
    refine CA [] (qCc m hm) ?_
    try simp only [go_sem, qA, qB, qC, qD, qE, qF, qG, qH]
    repeat refine K ?_
    refine ⟨_, Sub.refl _, qBq (by simp) ?_⟩; simp [-List.drop_one]
  ·try simp only [go_sem, qA, qB, qC, qD, qE, qF, qG, qH]
   repeat refine K ?_
   refine DA [] (qCc m hm) ?_
   try simp only [go_sem, qA, qB, qC, qD, qE, qF, qG, qH]
   repeat refine K ?_
   refine DA [(0, 14), (1, 15), (2, 16), (3, 17)] hB ?_
   try simp only [go_sem, qA, qB, qC, qD, qE, qF, qG, qH]
   repeat refine K ?_
   refine CA [] (qCc m hm) ?_
   try simp only [go_sem, qA, qB, qC, qD, qE, qF, qG, qH]
   repeat refine K ?_
   refine ⟨_, Sub.refl _, qBq (by simp) ?_⟩; simp [-List.drop_one]
end Go.Sep
