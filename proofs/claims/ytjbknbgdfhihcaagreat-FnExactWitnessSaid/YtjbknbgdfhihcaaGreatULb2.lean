/- Contracts of functions. -/
import Derived.Test.YtjbknbgdfhihcaaGreatUP0
import Derived.Test.YtjbknbgdfhihcaaGreatUL2
namespace Go.Sep
open Go.Proofs
set_option linter.unusedSimpArgs false
set_option linter.unusedVariables false
set_option maxRecDepth 100000
open Nat renaming reduceAdd → qA, reduceMul → qB, reduceEqDiff → qC, reduceBEq → qD
open Int renaming reduceToNat → qE, reduceEq → qF, reduceLT → qG, reduceLE → qH
def m391 : MFn := ⟨23, [.cell 2 4 true, .t 3], .seq (xr [xb 1 0, xo 2 (.alloc [.nil, .nil, .nil, .nil]), xF 3]) (.seq (xr [xm 9 2 1, xc1 10 162 (.t 9), xv 8 10, xo 11 (.ext (.t 8) 0), xo 12 (.ext (.t 8) 1), xv 4 11, xv 5 12]) (.seq (.seq (xr [xv 13 5, xo 14 (.un .«not» (.t 13))]) (.cond 14 (.seq (xr [xo 15 (.build [.nil, .nil, .nil, .nil] []), ⟨none, .store 4 (.t 2) (.t 15), none⟩, xF 3]) (.ret)) (.skip))) (.seq (xr [xv 17 4, xc1 18 415 (.t 17), xv 16 18, xo 19 (.ext (.t 16) 0), xo 20 (.ext (.t 16) 1), xo 6 (.alloc [.nil, .nil, .nil, .nil]), ⟨none, .store 4 (.t 6) (.t 19), none⟩, xv 7 20]) (.seq (xr [xm 21 4 6, xv 22 7, ⟨none, .store 4 (.t 2) (.t 21), none⟩, xv 3 22]) (.ret)))))⟩
def m392 : MFn := ⟨18, [.cell 2 4 true, .t 3], .seq (xr [xb 1 0, xo 2 (.alloc [.nil, .nil, .nil, .nil]), xF 3]) (.seq (xr [xm 7 2 1, xc1 8 163 (.t 7), xv 6 8, xo 9 (.ext (.t 6) 0), xo 10 (.ext (.t 6) 1), xv 4 9, xv 5 10]) (.seq (.seq (xr [xv 11 5, xo 12 (.un .«not» (.t 11))]) (.cond 12 (.seq (xr [xo 13 (.build [.nil, .nil, .nil, .nil] []), ⟨none, .store 4 (.t 2) (.t 13), none⟩, xF 3]) (.ret)) (.skip))) (.seq (xr [xv 14 4, xc1 15 416 (.t 14), xo 16 (.ext (.t 15) 0), xo 17 (.ext (.t 15) 1), ⟨none, .store 4 (.t 2) (.t 16), none⟩, xv 3 17]) (.ret))))⟩
def launch (p : Prog) : Machine × Bool := if (compile p).2 then machNewR (compile p).1 else (nilM, false)
theorem specLaunch_ok (p : Prog) (hp : SmallP p) : CallOk Tryz.prog num 391 [.agg (progC .bw p)] [] (.tup [.agg (machineC .own (launch p).1), .bool (launch p).2]) := by
 refine EN m391 Tryz.func27 ?_
 unfold m391
 obtain ⟨c1, c2⟩ := compile_small p
 simp only [go_sem, qA, qB, qC, qD, qE, qF, qG, qH]
 repeat refine K ?_
 refine CA [] (specCompile_ok p hp) ?_
 try simp only [go_sem, qA, qB, qC, qD, qE, qF, qG, qH]
 repeat refine K ?_
 unfold launch
 generalize compile p = w at *
 cases h2 : w.2
 ·try simp only [go_sem, qA, qB, qC, qD, qE, qF, qG, qH, h2]
  repeat refine K ?_
  refine ⟨_, Sub.refl _, qAo (by simp) ?_⟩; simp [-List.drop_one]
  simp [nilM]
 ·try simp only [go_sem, qA, qB, qC, qD, qE, qF, qG, qH, h2]
  repeat refine K ?_
  refine CA [] (specMachineNew_ok w.1 (by omega) (fun c hc => by have := c2 c hc; omega)) ?_
  try simp only [go_sem, qA, qB, qC, qD, qE, qF, qG, qH]
  repeat refine K ?_
  try simp only [go_sem, qA, qB, qC, qD, qE, qF, qG, qH]
  repeat refine K ?_
  refine ⟨_, Sub.refl _, qAo (by simp) ?_⟩; simp [-List.drop_one]
theorem implLaunch_ok (p : Prog) (hp : SmallP p) : CallOk Tryz.prog num 392 [.agg (progC .bw p)] [] (.tup [.agg (machineC .own (launch p).1), .bool (launch p).2]) := by
 refine EN m392 Tryz.func29 ?_
 unfold m392
 obtain ⟨c1, c2⟩ := compile_small p
 simp only [go_sem, qA, qB, qC, qD, qE, qF, qG, qH]
 repeat refine K ?_
 refine CA [] (implCompile_ok p hp) ?_
 try simp only [go_sem, qA, qB, qC, qD, qE, qF, qG, qH]
 repeat refine K ?_
 unfold launch
 generalize compile p = w at *
 cases h2 : w.2
 ·try simp only [go_sem, qA, qB, qC, qD, qE, qF, qG, qH, h2]
  repeat refine K ?_
  refine ⟨_, Sub.refl _, qAo (by simp) ?_⟩; simp [-List.drop_one]
  simp [nilM]
 ·try simp only [go_sem, qA, qB, qC, qD, qE, qF, qG, qH, h2]
  repeat refine K ?_
  refine CA [] (implMachineNew_ok w.1 (by omega) (fun c hc => by have := c2 c hc; omega)) ?_
  try simp only [go_sem, qA, qB, qC, qD, qE, qF, qG, qH]
  repeat refine K ?_
  try simp only [go_sem, qA, qB, qC, qD, qE, qF, qG, qH]
  repeat refine K ?_
  refine ⟨_, Sub.refl _, qAo (by simp) ?_⟩; simp [-List.drop_one]
end Go.Sep
