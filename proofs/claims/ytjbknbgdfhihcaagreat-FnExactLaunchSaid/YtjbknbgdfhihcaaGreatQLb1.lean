/- Contracts of functions. -/
import Derived.Test.YtjbknbgdfhihcaaGreatFns
import Derived.Test.YtjbknbgdfhihcaaGreatQa0
import Derived.Test.YtjbknbgdfhihcaaGreatQd0
import Derived.Test.YtjbknbgdfhihcaaGreatQe0
import Derived.Test.YtjbknbgdfhihcaaGreatQf0
import Derived.Test.YtjbknbgdfhihcaaGreatQj0
import Derived.Test.YtjbknbgdfhihcaaGreatQK0
import Derived.Test.YtjbknbgdfhihcaaGreatQt0
import Derived.Test.YtjbknbgdfhihcaaGreatQv0
import Derived.Test.YtjbknbgdfhihcaaGreatQw0
import Derived.Test.YtjbknbgdfhihcaaGreatQy0
import Derived.Test.YtjbknbgdfhihcaaGreatQz0
import Derived.Test.YtjbknbgdfhihcaaGreatQA0
import Derived.Test.YtjbknbgdfhihcaaGreatQM0
import Derived.Test.YtjbknbgdfhihcaaGreatQN0
import Derived.Test.YtjbknbgdfhihcaaGreatQO0
import Derived.Test.YtjbknbgdfhihcaaGreatQP0
import Derived.Test.YtjbknbgdfhihcaaGreatQL0
import Derived.Test.YtjbknbgdfhihcaaGreatQa1
import Derived.Test.YtjbknbgdfhihcaaGreatQb1
import Derived.Test.YtjbknbgdfhihcaaGreatQc1
import Derived.Test.YtjbknbgdfhihcaaGreatQd1
import Derived.Test.YtjbknbgdfhihcaaGreatQe1
import Derived.Test.YtjbknbgdfhihcaaGreatQj1
import Derived.Test.YtjbknbgdfhihcaaGreatQK1
import Derived.Test.YtjbknbgdfhihcaaGreatQt1
import Derived.Test.YtjbknbgdfhihcaaGreatQu1
import Derived.Test.YtjbknbgdfhihcaaGreatQy1
import Derived.Test.YtjbknbgdfhihcaaGreatQz1
import Derived.Test.YtjbknbgdfhihcaaGreatQL1
namespace Go.Sep
open Go.Proofs
set_option linter.unusedSimpArgs false
set_option linter.unusedVariables false
set_option maxRecDepth 100000
open Nat renaming reduceAdd → qA, reduceMul → qB, reduceEqDiff → qC, reduceBEq → qD
open Int renaming reduceToNat → qE, reduceEq → qF, reduceLT → qG, reduceLE → qH
open List renaming getD_eq_getElem?_getD → gD

-- S2
def m390 : MFn := ⟨96, [.t 2], .seq (xr [xo 1 (.box (.t 0)), xo 2 (.mv (.c (.bool false)))]) (.seq (xr [xo 3 (.mv (xi 1048576))]) (.seq (xr [xo 14 (.load 2 true (.t 1)), xv 15 3, xo 16 (.call 27 [false, false] [.t 14, .t 15]), xv 3 16]) (.seq (.seq (xr [xv 17 3, xo 18 (.bin .lss (.t 17) (xi 0))]) (.cond 18 (.seq (xr [xo 2 (.mv (.c (.bool true)))]) (.ret)) (.skip))) (.seq (xr [xo 20 (.load 2 true (.t 1)), xo 21 (.call 28 [false] [.t 20]), xo 22 (.call 391 [false] [.t 21]), xv 19 22, xo 23 (.ext (.t 19) 0), xo 24 (.ext (.t 19) 1), xo 4 (.alloc [.nil, .nil, .nil, .nil]), ⟨none, .store 4 (.t 4) (.t 23), none⟩, xv 5 24]) (.seq (xr [xo 25 (.load 2 true (.t 1)), xo 26 (.call 28 [false] [.t 25]), xo 6 (.alloc [.nil, .nil]), ⟨none, .store 2 (.t 6) (.t 26), none⟩]) (.seq (xr [xo 28 (.load 2 true (.t 6)), xo 29 (.call 392 [false] [.t 28]), xv 27 29, xo 30 (.ext (.t 27) 0), xo 31 (.ext (.t 27) 1), xo 7 (.alloc [.nil, .nil, .nil, .nil]), ⟨none, .store 4 (.t 7) (.t 30), none⟩, xv 8 31]) (.seq (.seq (xr [xo 32 (.load 4 true (.t 7)), xo 33 (.load 4 true (.t 4)), xo 34 (.call 176 [false, false] [.t 32, .t 33]), xo 35 (.un .«not» (.t 34)), xv 36 35, xg 37 (.mv (.t 8)) 36 false, xg 38 (.mv (.t 5)) 36 false, xg 39 (.eqB true (.t 37) (.t 38)) 36 false, xo 40 (.pick (.t 36) (.c (.bool true)) (.t 39))]) (.cond 40 (.seq (xr [xo 2 (.mv (.c (.bool false)))]) (.ret)) (.skip))) (.seq (.seq (.dreg (.take 0 (xo 41 (.load 2 true (.t 6))) (.only 1 [] (xo 42 (.load 2 true (.t 1))) (.only 2 [] (xo 43 (.call 28 [false] [.t 42])) (.only 3 [0] (xo 44 (.call 30 [false, false] [.t 41, .t 43])) (.only 4 [3, 0] (xo 45 (.un .«not» (.t 44))) (.done))))))) (.cond 45 (.seq (xr [xo 2 (.mv (.c (.bool false)))]) (.ret)) (.skip))) (.seq (xr [xo 9 (.mv (xi 1))]) (.seq (xr [xo 46 (.load 2 true (.t 6)), xv 47 9, xo 48 (.call 31 [true, false] [.t 46, .t 47]), xv 9 48]) (.seq (.seq (xr [xv 49 9, xo 50 (.bin .lss (.t 49) (xi 0)), xv 51 50, xg 52 (.load 4 true (.t 7)) 51 false, xg 53 (.load 4 true (.t 4)) 51 false, xg 54 (.call 176 [false, false] [.t 52, .t 53]) 51 false, xg 55 (.un .«not» (.t 54)) 51 false, xo 56 (.pick (.t 51) (.c (.bool true)) (.t 55)), xv 57 56, xg 58 (.mv (.t 8)) 57 false, xg 59 (.mv (.t 5)) 57 false, xg 60 (.eqB true (.t 58) (.t 59)) 57 false, xo 61 (.pick (.t 57) (.c (.bool true)) (.t 60))]) (.cond 61 (.seq (xr [xo 2 (.mv (.c (.bool false)))]) (.ret)) (.skip))) (.seq (xr [xo 10 (.mv (xi 1))]) (.seq (xr [xo 62 (.load 4 true (.t 7)), xv 63 10, xo 64 (.call 351 [true, false] [.t 62, .t 63]), xv 10 64]) (.seq (xr [xo 11 (.mv (xi 1))]) (.seq (xr [xo 65 (.load 4 true (.t 7)), xv 66 11, xo 67 (.call 352 [false, false] [.t 65, .t 66]), xv 11 67]) (.seq (.seq (xr [xv 68 11, xo 69 (.bin .lss (.t 68) (xi 0))]) (.cond 69 (.seq (xr [xo 2 (.mv (.c (.bool false)))]) (.ret)) (.skip))) (.seq (.seq (xr [xv 70 11, xv 71 10, xo 72 (.bin .neq (.t 70) (.t 71))]) (.cond 72 (.seq (xr [xo 2 (.mv (.c (.bool false)))]) (.ret)) (.skip))) (.seq (xr [xo 74 (.load 2 true (.t 1)), xo 75 (.call 28 [false] [.t 74]), xo 76 (.call 392 [false] [.t 75]), xv 73 76, xo 77 (.ext (.t 73) 0), xo 78 (.ext (.t 73) 1), xo 12 (.alloc [.nil, .nil, .nil, .nil]), ⟨none, .store 4 (.t 12) (.t 77), none⟩, xv 13 78]) (.seq (.seq (xr [xo 79 (.load 4 true (.t 12)), xo 80 (.load 4 true (.t 4)), xo 81 (.call 176 [false, false] [.t 79, .t 80]), xo 82 (.un .«not» (.t 81)), xv 83 82, xg 84 (.mv (.t 13)) 83 false, xg 85 (.mv (.t 5)) 83 false, xg 86 (.eqB true (.t 84) (.t 85)) 83 false, xo 87 (.pick (.t 83) (.c (.bool true)) (.t 86))]) (.cond 87 (.seq (xr [xo 2 (.mv (.c (.bool false)))]) (.ret)) (.skip))) (.seq (xr [xo 11 (.mv (xi 1))]) (.seq (xr [xo 88 (.load 4 true (.t 7)), xv 89 11, xo 90 (.call 352 [false, false] [.t 88, .t 89]), xv 11 90]) (.seq (.seq (xr [xv 91 11, xo 92 (.bin .lss (.t 91) (xi 0))]) (.cond 92 (.seq (xr [xo 2 (.mv (.c (.bool false)))]) (.ret)) (.skip))) (.seq (.seq (xr [xv 93 11, xv 94 10, xo 95 (.bin .neq (.t 93) (.t 94))]) (.cond 95 (.seq (xr [xo 2 (.mv (.c (.bool false)))]) (.ret)) (.skip))) (.seq (xr [xo 2 (.mv (.c (.bool true)))]) (.ret)))))))))))))))))))))))))⟩
theorem c390 : chkC Tryz.prog num Tryz.f4.ntmps m390.body ((Tryz.f4.body).getD .skip) = true := by kernel_rfl
def m391 : MFn := ⟨23, [.cell 2 4 true, .t 3], .seq (xr [xo 1 (.box (.t 0)), xo 2 (.alloc [.nil, .nil, .nil, .nil]), xo 3 (.mv (.c (.bool false)))]) (.seq (xr [xo 9 (.load 2 true (.t 1)), xo 10 (.call 162 [false] [.t 9]), xv 8 10, xo 11 (.ext (.t 8) 0), xo 12 (.ext (.t 8) 1), xv 4 11, xv 5 12]) (.seq (.seq (xr [xv 13 5, xo 14 (.un .«not» (.t 13))]) (.cond 14 (.seq (xr [xo 15 (.build [.nil, .nil, .nil, .nil] []), ⟨none, .store 4 (.t 2) (.t 15), none⟩, xo 3 (.mv (.c (.bool false)))]) (.ret)) (.skip))) (.seq (xr [xv 17 4, xo 18 (.call 415 [false] [.t 17]), xv 16 18, xo 19 (.ext (.t 16) 0), xo 20 (.ext (.t 16) 1), xo 6 (.alloc [.nil, .nil, .nil, .nil]), ⟨none, .store 4 (.t 6) (.t 19), none⟩, xv 7 20]) (.seq (xr [xo 21 (.load 4 true (.t 6)), xv 22 7, ⟨none, .store 4 (.t 2) (.t 21), none⟩, xv 3 22]) (.ret)))))⟩
theorem c391 : chkC Tryz.prog num Tryz.f27.ntmps m391.body ((Tryz.f27.body).getD .skip) = true := by kernel_rfl
def m392 : MFn := ⟨18, [.cell 2 4 true, .t 3], .seq (xr [xo 1 (.box (.t 0)), xo 2 (.alloc [.nil, .nil, .nil, .nil]), xo 3 (.mv (.c (.bool false)))]) (.seq (xr [xo 7 (.load 2 true (.t 1)), xo 8 (.call 163 [false] [.t 7]), xv 6 8, xo 9 (.ext (.t 6) 0), xo 10 (.ext (.t 6) 1), xv 4 9, xv 5 10]) (.seq (.seq (xr [xv 11 5, xo 12 (.un .«not» (.t 11))]) (.cond 12 (.seq (xr [xo 13 (.build [.nil, .nil, .nil, .nil] []), ⟨none, .store 4 (.t 2) (.t 13), none⟩, xo 3 (.mv (.c (.bool false)))]) (.ret)) (.skip))) (.seq (xr [xv 14 4, xo 15 (.call 416 [false] [.t 14]), xo 16 (.ext (.t 15) 0), xo 17 (.ext (.t 15) 1), ⟨none, .store 4 (.t 2) (.t 16), none⟩, xv 3 17]) (.ret))))⟩
theorem c392 : chkC Tryz.prog num Tryz.f29.ntmps m392.body ((Tryz.f29.body).getD .skip) = true := by kernel_rfl
def launch (p : Prog) : Machine × Bool := if (compile p).2 then machNewR (compile p).1 else (nilM, false)
theorem launch_ok (p : Prog) : ((launch p).2 = true ∧ machineOk (launch p).1 = true) ∨ launch p = (nilM, false) := by
  unfold launch machNewR
  split
  · split
    · rename_i h
      exact .inl ⟨rfl, h⟩
    · exact .inr rfl
  · exact .inr rfl
theorem launch_z (p : Prog) : zMachine (launch p).1 ≤ 4000000 := by
  rcases launch_ok p with ⟨_, h⟩ | h
  · exact machineOk_z h
  · rw [h]
    decide
theorem specLaunch_ok (p : Prog) (hp : SmallP p) : CallOk Tryz.prog num 391 [.agg (progC .bw p)] [] (.tup [.agg (machineC .own (launch p).1), .bool (launch p).2]) := by
  refine enter (m := m391) (f := 391) (fn := Tryz.f27) Tryz.func27 (by kernel_rfl) rfl c391 rfl (by simp [Tryz.f27]) (by simp [bnds, bnd, nf_sl, nf_int, nf_bool, nf_str, ints_bnd]) (fun _ _ h => by simp [preH, look] at h) ?_
  unfold m391
  obtain ⟨c1, c2⟩ := compile_small p
  simp only [go_sem, qA, qB, qC, qD, qE, qF, qG, qH]
  repeat refine K ?_
  refine CA [] (specCompile_ok p hp) ?_
  try simp only [go_sem, qA, qB, qC, qD, qE, qF, qG, qH]
  repeat refine K ?_
  unfold launch
  generalize compile p = w at *
  cases h2 : w.2
  · try simp only [go_sem, qA, qB, qC, qD, qE, qF, qG, qH, h2]
    repeat refine K ?_
    refine ⟨_, Sub.refl _, FinS_tup (by simp) ?_⟩; simp [-List.drop_one]
    simp [nilM]
  · try simp only [go_sem, qA, qB, qC, qD, qE, qF, qG, qH, h2]
    repeat refine K ?_
    refine CA [] (specMachineNew_ok w.1 (by omega) (fun c hc => by have := c2 c hc; omega)) ?_
    try simp only [go_sem, qA, qB, qC, qD, qE, qF, qG, qH]
    repeat refine K ?_
    try simp only [go_sem, qA, qB, qC, qD, qE, qF, qG, qH]
    repeat refine K ?_
    refine ⟨_, Sub.refl _, FinS_tup (by simp) ?_⟩; simp [-List.drop_one]
theorem implLaunch_ok (p : Prog) (hp : SmallP p) : CallOk Tryz.prog num 392 [.agg (progC .bw p)] [] (.tup [.agg (machineC .own (launch p).1), .bool (launch p).2]) := by
  refine enter (m := m392) (f := 392) (fn := Tryz.f29) Tryz.func29 (by kernel_rfl) rfl c392 rfl (by simp [Tryz.f29]) (by simp [bnds, bnd, nf_sl, nf_int, nf_bool, nf_str, ints_bnd]) (fun _ _ h => by simp [preH, look] at h) ?_
  unfold m392
  obtain ⟨c1, c2⟩ := compile_small p
  simp only [go_sem, qA, qB, qC, qD, qE, qF, qG, qH]
  repeat refine K ?_
  refine CA [] (implCompile_ok p hp) ?_
  try simp only [go_sem, qA, qB, qC, qD, qE, qF, qG, qH]
  repeat refine K ?_
  unfold launch
  generalize compile p = w at *
  cases h2 : w.2
  · try simp only [go_sem, qA, qB, qC, qD, qE, qF, qG, qH, h2]
    repeat refine K ?_
    refine ⟨_, Sub.refl _, FinS_tup (by simp) ?_⟩; simp [-List.drop_one]
    simp [nilM]
  · try simp only [go_sem, qA, qB, qC, qD, qE, qF, qG, qH, h2]
    repeat refine K ?_
    refine CA [] (implMachineNew_ok w.1 (by omega) (fun c hc => by have := c2 c hc; omega)) ?_
    try simp only [go_sem, qA, qB, qC, qD, qE, qF, qG, qH]
    repeat refine K ?_
    try simp only [go_sem, qA, qB, qC, qD, qE, qF, qG, qH]
    repeat refine K ?_
    refine ⟨_, Sub.refl _, FinS_tup (by simp) ?_⟩; simp [-List.drop_one]

-- S2
set_option maxHeartbeats 8000000 in
theorem exactLaunch_ok (p : Prog) (h1 : p.caps.length < 2 ^ 63 ∧ p.bods.length < 2 ^ 63 ∧ ∀ b ∈ p.bods, b.length < 2 ^ 63) : CallOk Tryz.prog num 390 [.agg (progC .bw p)] [] (.bool true) := by
  refine enter (m := m390) (f := 390) (fn := Tryz.f4) Tryz.func4 (by kernel_rfl) rfl c390 rfl (by simp [Tryz.f4]) (by simp [bnds, bnd, nf_sl, nf_int, nf_bool, nf_str, ints_bnd]) (fun _ _ h => by simp [preH, look] at h) ?_
  unfold m390
  simp only [go_sem, qA, qB, qC, qD, qE, qF, qG, qH]
  repeat refine K ?_
  refine CA [] (szProg_ok p 1048576 h1.1 h1.2.1 h1.2.2 (by omega) (by omega)) ?_
  try simp only [go_sem, qA, qB, qC, qD, qE, qF, qG, qH]
  repeat refine K ?_
  rw [szProg_eq p _ (by omega)]
  have l1 := szL_le (k := wProg p) (n := 1048576) (by omega)
  refine branch_intro (fun hc => ?_) (fun hc => ?_)
  · simp only [go_sem, qA, qB, qC, qD, qE, qF, qG, qH]
    repeat refine K ?_
    refine ⟨_, Sub.refl _, ?_⟩; simp [FinS, nilL, nilV, oneOr, -List.drop_one]
  simp only [decide_eq_false_iff_not] at hc
  have hp := prgSz_of (p := p) (n := 1048576) (by have := szL_ge hc (by omega); omega)
  clear hc h1 l1
  obtain ⟨p1, p2, p3, p4⟩ := hp
  have q1 : ∀ b ∈ p.bods, 40 * b.length ≤ 2 ^ 47 := fun b hb => by have := p3 b hb; omega
  have q2 : ∀ b ∈ p.bods, b.length ≤ 2 ^ 47 := fun b hb => by have := p3 b hb; omega
  have hpp : SmallP p := ⟨by omega, by omega, fun b hb => by have := p3 b hb; omega⟩
  have tp := toProg_ok p (by omega) (by omega) q1
  have cs := specLaunch_ok p hpp
  have ci := implLaunch_ok p hpp
  have wz := launch_z p
  generalize launch p = w at *
  have hw := smallM_of (m := w.1) (n := 4000000) (by omega) (by omega)
  have ww := wMachine_z w.1
  have ew := eqMachine_ok w.1 w.1 hw
  have ep := eqProg_ok p p (by omega) (by omega) q2
  have d1 : decide ((1 : Int) + wMachine w.1 < 0) = false := by simp; omega
  have d2 : decide ((1 : Int) + p.caps.length + 5 * tot p.bods < 0) = false := by simp; omega
  have eb : (w.2 == w.2) = true := by simp
  simp only [go_sem, qA, qB, qC, qD, qE, qF, qG, qH]
  repeat refine K ?_
  refine CA [] (tp) ?_
  try simp only [go_sem, qA, qB, qC, qD, qE, qF, qG, qH]
  repeat refine K ?_
  try simp only [go_sem, qA, qB, qC, qD, qE, qF, qG, qH]
  repeat refine K ?_
  refine CA [] (cs) ?_
  try simp only [go_sem, qA, qB, qC, qD, qE, qF, qG, qH]
  repeat refine K ?_
  try simp only [go_sem, qA, qB, qC, qD, qE, qF, qG, qH]
  repeat refine K ?_
  refine CA [] (tp) ?_
  try simp only [go_sem, qA, qB, qC, qD, qE, qF, qG, qH]
  repeat refine K ?_
  try simp only [go_sem, qA, qB, qC, qD, qE, qF, qG, qH]
  repeat refine K ?_
  refine CA [] (ci) ?_
  try simp only [go_sem, qA, qB, qC, qD, qE, qF, qG, qH]
  repeat refine K ?_
  try simp only [go_sem, qA, qB, qC, qD, qE, qF, qG, qH]
  repeat refine K ?_
  refine CA [] (ew) ?_
  try simp only [go_sem, qA, qB, qC, qD, qE, qF, qG, qH]
  repeat refine K ?_
  try simp only [go_sem, qA, qB, qC, qD, qE, qF, qG, qH, eb]
  repeat refine K ?_
  refine DA [] (tp) ?_
  try simp only [go_sem, qA, qB, qC, qD, qE, qF, qG, qH]
  repeat refine K ?_
  refine DA [] (ep) ?_
  try simp only [go_sem, qA, qB, qC, qD, qE, qF, qG, qH]
  repeat refine K ?_
  try simp only [go_sem, qA, qB, qC, qD, qE, qF, qG, qH]
  repeat refine K ?_
  refine CA [(0, 18), (1, 19)] (markProg_ok p 1 (by omega) (by omega) (by omega)) ?_
  try simp only [go_sem, qA, qB, qC, qD, qE, qF, qG, qH]
  repeat refine K ?_
  try simp only [go_sem, qA, qB, qC, qD, qE, qF, qG, qH, d2]
  repeat refine K ?_
  refine CA [] (ew) ?_
  try simp only [go_sem, qA, qB, qC, qD, qE, qF, qG, qH]
  repeat refine K ?_
  try simp only [go_sem, qA, qB, qC, qD, qE, qF, qG, qH, eb]
  repeat refine K ?_
  refine CA [(0, 21), (1, 22), (2, 23), (3, 24)] (markMachine_ok w.1 1 hw (by omega) (by omega)) ?_
  try simp only [go_sem, qA, qB, qC, qD, qE, qF, qG, qH]
  repeat refine K ?_
  try simp only [go_sem, qA, qB, qC, qD, qE, qF, qG, qH]
  repeat refine K ?_
  have hh := heldMachine_ok w.1 1 hw (by omega) (by omega)
  unfold machineMarks at hh
  refine CA [] (hh) ?_
  try simp only [go_sem, qA, qB, qC, qD, qE, qF, qG, qH]
  repeat refine K ?_
  try simp only [go_sem, qA, qB, qC, qD, qE, qF, qG, qH, d1]
  repeat refine K ?_
  refine CA [] (tp) ?_
  try simp only [go_sem, qA, qB, qC, qD, qE, qF, qG, qH]
  repeat refine K ?_
  try simp only [go_sem, qA, qB, qC, qD, qE, qF, qG, qH]
  repeat refine K ?_
  refine CA [] (ci) ?_
  try simp only [go_sem, qA, qB, qC, qD, qE, qF, qG, qH]
  repeat refine K ?_
  try simp only [go_sem, qA, qB, qC, qD, qE, qF, qG, qH]
  repeat refine K ?_
  refine CA [] (ew) ?_
  try simp only [go_sem, qA, qB, qC, qD, qE, qF, qG, qH]
  repeat refine K ?_
  try simp only [go_sem, qA, qB, qC, qD, qE, qF, qG, qH, eb]
  repeat refine K ?_
  refine CA [] (hh) ?_
  try simp only [go_sem, qA, qB, qC, qD, qE, qF, qG, qH]
  repeat refine K ?_
  try simp only [go_sem, qA, qB, qC, qD, qE, qF, qG, qH, d1]
  repeat refine K ?_
  refine ⟨_, Sub.refl _, ?_⟩; simp [FinS, nilL, nilV, oneOr, -List.drop_one]

end Go.Sep
