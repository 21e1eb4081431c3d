/- Contracts of functions. -/
import Derived.Test.YtjbknbgdfhihcaaVX0
import Derived.Test.YtjbknbgdfhihcaaVL0
import Derived.Test.YtjbknbgdfhihcaaVXa1
namespace Go.Sep
open Go.Proofs
set_option linter.unusedSimpArgs false
set_option linter.unusedVariables false
set_option maxRecDepth 100000
open Nat renaming reduceAdd → qA, reduceMul → qB, reduceEqDiff → qC, reduceBEq → qD
open Int renaming reduceToNat → qE, reduceEq → qF, reduceLT → qG, reduceLE → qH
open List renaming getD_eq_getElem?_getD → gD
def m354 : MFn := ⟨25, [.cell 6 4 true], .seq (xr [xb 3 0, xo 6 (.alloc [.nil, .nil, .nil, .nil])]) (.seq (.seq (xr [xm 7 4 3, xc1 8 233 (.t 7), xo 9 (.un .«not» (.t 8))]) (.cond 9 (.seq (xr [xo 10 (.build [.nil, .nil, .nil, .nil] []), ⟨none, .store 4 (.t 6) (.t 10), none⟩]) (.ret)) (.skip))) (.seq (.seq (xr [xv 11 1, xa 12 1 3, xl 13 12, xe 14 13, xo 15 (.bin .sub (.t 14) (xi 1)), xc3 16 64 (.t 11) (xi 0) (.t 15), xo 17 (.un .«not» (.t 16))]) (.cond 17 (.seq (xr [xm 18 4 3, xc1 19 356 (.t 18), ⟨none, .store 4 (.t 6) (.t 19), none⟩]) (.ret)) (.skip))) (.seq (xr [xm 20 4 3, xc1 21 356 (.t 20), xv 22 1, xv 23 2, xo 24 (.call 364 [true, false, false] [.t 21, .t 22, .t 23]), ⟨none, .store 4 (.t 6) (.t 24), none⟩]) (.ret))))⟩
def m355 : MFn := ⟨18, [.cell 6 4 true], .seq (xr [xb 3 0, xo 6 (.alloc [.nil, .nil, .nil, .nil])]) (.seq (.seq (xr [xm 8 4 3, xc1 9 235 (.t 8), xo 10 (.un .«not» (.t 9))]) (.cond 10 (.seq (xr [xo 11 (.build [.nil, .nil, .nil, .nil] []), ⟨none, .store 4 (.t 6) (.t 11), none⟩]) (.ret)) (.skip))) (.seq (xr [xm 12 4 3, xc1 13 358 (.t 12), xo 7 (.alloc [.nil, .nil, .nil, .nil]), ⟨none, .store 4 (.t 7) (.t 13), none⟩]) (.seq (xr [xv 14 1, xv 15 2, xo 16 (.call 346 [true, false, false] [.t 7, .t 14, .t 15])]) (.seq (xr [xm 17 4 7, ⟨none, .store 4 (.t 6) (.t 17), none⟩]) (.ret)))))⟩
def aloneM (m : Machine) (who steps : Int) : Machine := if machineOk m then maloneN (aloneN steps) m who else nilM
theorem aloneM_z {m : Machine} {who steps : Int} : zMachine (aloneM m who steps) ≤ 4000000 := by
 unfold aloneM
 split
 ·rename_i h
  exact machineOk_z (maloneN_ok _ who h)
 ·decide
theorem maloneN_none {m : Machine} {who : Int} (h : within who 0 (m.cores.length - 1) = false) : ∀ n, maloneN n m who = m
 | 0 => rfl
 | n + 1 => by
  unfold maloneN
  rw [mstep_none (x := ⟨who, 0⟩) h]
  rfl
theorem implAlone_ok (m : Machine) (who steps : Int) (hm : SmallM m) : CallOk Try.prog num 355 [.agg (machineC .bw m), .int .i64 who, .int .i64 steps] [] (.agg (machineC .own (aloneM m who steps))) := by
 refine EN m355 Try.func15 ?_
 unfold m355
 simp only [go_sem, qA, qB, qC, qD, qE, qF, qG, qH]
 repeat refine K ?_
 refine CA [] (implMachineOk_ok m hm) ?_
 try simp only [go_sem, qA, qB, qC, qD, qE, qF, qG, qH]
 repeat refine K ?_
 cases hok : machineOk m
 ·have hr : aloneM m who steps = nilM := by simp [aloneM, hok]
  rw [hr]
  try simp only [go_sem, qA, qB, qC, qD, qE, qF, qG, qH, hok]
  repeat refine K ?_
  refine ⟨_, Sub.refl _, qB5 ?_⟩; simp [-List.drop_one]
  simp [nilM]
 have hr : aloneM m who steps = maloneN (aloneN steps) m who := by simp [aloneM, hok]
 rw [hr]
 try simp only [go_sem, qA, qB, qC, qD, qE, qF, qG, qH, hok]
 repeat refine K ?_
 refine CA [] (copyMachine_ok m hm) ?_
 try simp only [go_sem, qA, qB, qC, qD, qE, qF, qG, qH]
 repeat refine K ?_
 try simp only [go_sem, qA, qB, qC, qD, qE, qF, qG, qH]
 repeat refine K ?_
 apply qCr
 ·refine Sub.trans (Sub.fold1 16 0 12 rfl (by simp [-gD] <;> omega) rfl (by decide) (by decide) rfl) ?_
  simp only [fS, fS2, qA, qC]
  refine Sub.trans (Sub.fold1 16 1 13 rfl (by simp [-gD] <;> omega) rfl (by decide) (by decide) rfl) ?_
  simp only [fS, fS2, qA, qC]
  refine Sub.trans (Sub.fold1 16 2 14 rfl (by simp [-gD] <;> omega) rfl (by decide) (by decide) rfl) ?_
  simp only [fS, fS2, qA, qC]
  refine Sub.trans (Sub.fold1 16 3 15 rfl (by simp [-gD] <;> omega) rfl (by decide) (by decide) rfl) ?_
  simp only [fS, fS2, qA, qC]
  exact Sub.refl _
 refine CA [(0, 16)] (implAloneIn_ok m who steps hok) ?_
 try simp only [go_sem, qA, qB, qC, qD, qE, qF, qG, qH]
 repeat refine K ?_
 try simp only [go_sem, qA, qB, qC, qD, qE, qF, qG, qH]
 repeat refine K ?_
 refine ⟨_, Sub.refl _, qB5 ?_⟩; simp [-List.drop_one]
theorem specAlone_ok (m : Machine) (who steps : Int) (hm : SmallM m) : CallOk Try.prog num 354 [.agg (machineC .bw m), .int .i64 who, .int .i64 steps] [] (.agg (machineC .own (aloneM m who steps))) := by
 refine EN m354 Try.func14 ?_
 unfold m354
 simp only [go_sem, qA, qB, qC, qD, qE, qF, qG, qH]
 repeat refine K ?_
 refine CA [] (specMachineOk_ok m hm) ?_
 try simp only [go_sem, qA, qB, qC, qD, qE, qF, qG, qH]
 repeat refine K ?_
 cases hok : machineOk m
 ·have hr : aloneM m who steps = nilM := by simp [aloneM, hok]
  rw [hr]
  try simp only [go_sem, qA, qB, qC, qD, qE, qF, qG, qH, hok]
  repeat refine K ?_
  refine ⟨_, Sub.refl _, qB5 ?_⟩; simp [-List.drop_one]
  simp [nilM]
 have hr : aloneM m who steps = maloneN (aloneN steps) m who := by simp [aloneM, hok]
 rw [hr]
 have hM := (qC0 m).1 hok
 have hc0 := hM.cores
 have hn4 := hM.n4
 have w1 : IntKind.i64.wrap ((m.cores.length : Int) - 1) = m.cores.length - 1 := qAs (by omega) (by omega)
 try simp only [go_sem, qA, qB, qC, qD, qE, qF, qG, qH, hok, w1]
 repeat refine K ?_
 refine CA [] (qAy who 0 (m.cores.length - 1)) ?_
 try simp only [go_sem, qA, qB, qC, qD, qE, qF, qG, qH]
 repeat refine K ?_
 cases hw : within who 0 (m.cores.length - 1)
 ·rw [maloneN_none hw]
  try simp only [go_sem, qA, qB, qC, qD, qE, qF, qG, qH, hw]
  repeat refine K ?_
  refine CA [] (qCc m hm) ?_
  try simp only [go_sem, qA, qB, qC, qD, qE, qF, qG, qH]
  repeat refine K ?_
  try simp only [go_sem, qA, qB, qC, qD, qE, qF, qG, qH]
  repeat refine K ?_
  refine ⟨_, Sub.refl _, qB5 ?_⟩; simp [-List.drop_one]
 have hw' := within_iff.1 hw
 obtain ⟨j, rfl⟩ := Int.eq_ofNat_of_zero_le hw'.1
 try simp only [go_sem, qA, qB, qC, qD, qE, qF, qG, qH, hw]
 repeat refine K ?_
 refine CA [] (qCc m hm) ?_
 try simp only [go_sem, qA, qB, qC, qD, qE, qF, qG, qH]
 repeat refine K ?_
 try simp only [go_sem, qA, qB, qC, qD, qE, qF, qG, qH]
 repeat refine K ?_
 refine CA [(0, 12), (1, 13), (2, 14), (3, 15)] (l15Alone_ok m j steps hok (by omega)) ?_
 try simp only [go_sem, qA, qB, qC, qD, qE, qF, qG, qH]
 repeat refine K ?_
 try simp only [go_sem, qA, qB, qC, qD, qE, qF, qG, qH]
 repeat refine K ?_
 refine ⟨_, Sub.refl _, qB5 ?_⟩; simp [-List.drop_one]
end Go.Sep
