/- Contracts of functions. -/
import Derived.Test.YtoijhndfkfliiaaConz
import Derived.Test.YtoijhndfkfliiaaConA
namespace Go.Sep
open Go.Proofs
set_option linter.unusedSimpArgs false
set_option linter.unusedVariables false
set_option maxRecDepth 100000
def m161 : MFn := ⟨96, [.t 2], .seq (xr [xo 1 (.box (.t 0)), xo 2 (.mv (.c (.bool false)))]) (.seq (xr [xo 3 (.mv (xi 1048576))]) (.seq (xr [xo 14 (.load 2 true (.t 1)), xv 15 3, xo 16 (.call 27 [false, false] [.t 14, .t 15]), xv 3 16]) (.seq (.seq (xr [xv 17 3, xo 18 (.bin .lss (.t 17) (xi 0))]) (.cond 18 (.seq (xr [xo 2 (.mv (.c (.bool true)))]) (.ret)) (.skip))) (.seq (xr [xo 20 (.load 2 true (.t 1)), xo 21 (.call 28 [false] [.t 20]), xo 22 (.call 162 [false] [.t 21]), xv 19 22, xo 23 (.ext (.t 19) 0), xo 24 (.ext (.t 19) 1), xv 4 23, xv 5 24]) (.seq (xr [xo 25 (.load 2 true (.t 1)), xo 26 (.call 28 [false] [.t 25]), xo 6 (.alloc [.nil, .nil]), ⟨none, .store 2 (.t 6) (.t 26), none⟩]) (.seq (xr [xo 28 (.load 2 true (.t 6)), xo 29 (.call 163 [false] [.t 28]), xv 27 29, xo 30 (.ext (.t 27) 0), xo 31 (.ext (.t 27) 1), xv 7 30, xv 8 31]) (.seq (.seq (xr [xv 32 7, xv 33 4, xo 34 (.call 164 [false, false] [.t 32, .t 33]), xo 35 (.un .«not» (.t 34)), xv 36 35, xg 37 (.mv (.t 8)) 36 false, xg 38 (.mv (.t 5)) 36 false, xg 39 (.eqB true (.t 37) (.t 38)) 36 false, xo 40 (.pick (.t 36) (.c (.bool true)) (.t 39))]) (.cond 40 (.seq (xr [xo 2 (.mv (.c (.bool false)))]) (.ret)) (.skip))) (.seq (.seq (.dreg (.take 0 (xo 41 (.load 2 true (.t 6))) (.only 1 [] (xo 42 (.load 2 true (.t 1))) (.only 2 [] (xo 43 (.call 28 [false] [.t 42])) (.only 3 [0] (xo 44 (.call 30 [false, false] [.t 41, .t 43])) (.only 4 [] (xo 45 (.un .«not» (.t 44))) (.done))))))) (.cond 45 (.seq (xr [xo 2 (.mv (.c (.bool false)))]) (.ret)) (.skip))) (.seq (xr [xo 9 (.mv (xi 1))]) (.seq (xr [xo 46 (.load 2 true (.t 6)), xv 47 9, xo 48 (.call 31 [true, false] [.t 46, .t 47]), xv 9 48]) (.seq (.seq (xr [xv 49 9, xo 50 (.bin .lss (.t 49) (xi 0)), xv 51 50, xg 52 (.mv (.t 7)) 51 false, xg 53 (.mv (.t 4)) 51 false, xg 54 (.call 164 [false, false] [.t 52, .t 53]) 51 false, xg 55 (.un .«not» (.t 54)) 51 false, xo 56 (.pick (.t 51) (.c (.bool true)) (.t 55)), xv 57 56, xg 58 (.mv (.t 8)) 57 false, xg 59 (.mv (.t 5)) 57 false, xg 60 (.eqB true (.t 58) (.t 59)) 57 false, xo 61 (.pick (.t 57) (.c (.bool true)) (.t 60))]) (.cond 61 (.seq (xr [xo 2 (.mv (.c (.bool false)))]) (.ret)) (.skip))) (.seq (xr [xo 10 (.mv (xi 1))]) (.seq (xr [xv 62 7, xv 63 10, xo 64 (.call 165 [true, false] [.t 62, .t 63]), xv 10 64]) (.seq (xr [xo 11 (.mv (xi 1))]) (.seq (xr [xv 65 7, xv 66 11, xo 67 (.call 166 [false, false] [.t 65, .t 66]), xv 11 67]) (.seq (.seq (xr [xv 68 11, xo 69 (.bin .lss (.t 68) (xi 0))]) (.cond 69 (.seq (xr [xo 2 (.mv (.c (.bool false)))]) (.ret)) (.skip))) (.seq (.seq (xr [xv 70 11, xv 71 10, xo 72 (.bin .neq (.t 70) (.t 71))]) (.cond 72 (.seq (xr [xo 2 (.mv (.c (.bool false)))]) (.ret)) (.skip))) (.seq (xr [xo 74 (.load 2 true (.t 1)), xo 75 (.call 28 [false] [.t 74]), xo 76 (.call 163 [false] [.t 75]), xv 73 76, xo 77 (.ext (.t 73) 0), xo 78 (.ext (.t 73) 1), xv 12 77, xv 13 78]) (.seq (.seq (xr [xv 79 12, xv 80 4, xo 81 (.call 164 [false, false] [.t 79, .t 80]), xo 82 (.un .«not» (.t 81)), xv 83 82, xg 84 (.mv (.t 13)) 83 false, xg 85 (.mv (.t 5)) 83 false, xg 86 (.eqB true (.t 84) (.t 85)) 83 false, xo 87 (.pick (.t 83) (.c (.bool true)) (.t 86))]) (.cond 87 (.seq (xr [xo 2 (.mv (.c (.bool false)))]) (.ret)) (.skip))) (.seq (xr [xo 11 (.mv (xi 1))]) (.seq (xr [xv 88 7, xv 89 11, xo 90 (.call 166 [false, false] [.t 88, .t 89]), xv 11 90]) (.seq (.seq (xr [xv 91 11, xo 92 (.bin .lss (.t 91) (xi 0))]) (.cond 92 (.seq (xr [xo 2 (.mv (.c (.bool false)))]) (.ret)) (.skip))) (.seq (.seq (xr [xv 93 11, xv 94 10, xo 95 (.bin .neq (.t 93) (.t 94))]) (.cond 95 (.seq (xr [xo 2 (.mv (.c (.bool false)))]) (.ret)) (.skip))) (.seq (xr [xo 2 (.mv (.c (.bool true)))]) (.ret)))))))))))))))))))))))))⟩
theorem c161 : chkC Try.prog num Try.f5.ntmps m161.body ((Try.f5.body).getD .skip) = true := by kernel_rfl
open Nat renaming reduceAdd → qA, reduceMul → qB, reduceEqDiff → qC, reduceBEq → qD
open Int renaming reduceToNat → qE, reduceEq → qF, reduceLT → qG, reduceLE → qH
open List renaming getD_eq_getElem?_getD → gD

-- S2
theorem wStepS_le (l : List (List Step)) (h : ∀ c ∈ l, c.length ≤ 960) : tots wStepS l ≤ 4800 * l.length := by
  refine tots_le fun c hc => ?_
  have e : wStepS c = 5 * c.length := tots_const 5 c
  have := h c hc
  omega
set_option maxHeartbeats 8000000 in
theorem exactCompile_ok (p : Prog) (h1 : p.caps.length < 2 ^ 63 ∧ p.bods.length < 2 ^ 63 ∧ ∀ b ∈ p.bods, b.length < 2 ^ 63) :
    CallOk Try.prog num 161 [.agg (progC .bw p)] [] (.bool true) := by
  refine enter (m := m161) (f := 161) (fn := Try.f5) Try.func5 (by kernel_rfl) rfl c161 rfl (by simp [Try.f5]) (by simp [bnds, bnd, nf_sl, nf_int, nf_bool, nf_str, ints_bnd]) (fun _ _ h => by simp [preH, look] at h) ?_
  unfold m161
  simp only [go_sem, qA, qB, qC, qD, qE, qF, qG, qH]
  repeat refine K ?_
  refine CA [] (szProg_ok p 1048576 h1.1 h1.2.1 h1.2.2 (by omega) (by omega)) ?_
  try simp only [go_sem, qA, qB, qC, qD, qE, qF, qG, qH]
  repeat refine K ?_
  rw [szProg_eq p _ (by omega)]
  refine branch_intro (fun hc => ?_) (fun hc => ?_)
  · simp only [go_sem, qA, qB, qC, qD, qE, qF, qG, qH]
    repeat refine K ?_
    refine ⟨_, Sub.refl _, ?_⟩; simp [FinS, nilL, nilV, oneOr, -List.drop_one]
  simp only [decide_eq_false_iff_not] at hc
  have hp := prgSz_of (p := p) (n := 1048576) (by have := szL_ge hc (by omega); omega)
  clear hc h1
  obtain ⟨p1, p2, p3, p4⟩ := hp
  have q1 : ∀ b ∈ p.bods, 40 * b.length ≤ 2 ^ 47 := fun b hb => by have := p3 b hb; omega
  have q2 : ∀ b ∈ p.bods, b.length ≤ 2 ^ 47 := fun b hb => by have := p3 b hb; omega
  have hpp : SmallP p := ⟨by omega, by omega, fun b hb => by have := p3 b hb; omega⟩
  have tp := toProg_ok p (by omega) (by omega) q1
  have cs := specCompile_ok p hpp
  have ci := implCompile_ok p hpp
  obtain ⟨hl, hl2⟩ := compile_small p
  have hw := wStepS_le (compile p).1 hl2
  generalize compile p = w at hl hl2 hw cs ci
  have ew := eqStepSS_ok w.1 w.1 (by omega) (fun b hb => by have := hl2 b hb; omega)
  have ep := eqProg_ok p p (by omega) (by omega) q2
  have hh := heldStepSS_ok w.1 1 (by omega) (by omega) (by omega) (fun b hb => by have := hl2 b hb; omega)
  have hm := markStepSS_ok w.1 1 (by omega) (by omega) (by omega) (fun b hb => by have := hl2 b hb; omega)
  have eb : (w.2 == w.2) = true := by simp
  have d1 : decide ((1 : Int) + (tots wStepS w.1 : Int) < 0) = false := by simp; omega
  have d2 : decide ((1 : Int) + p.caps.length + 5 * tot p.bods < 0) = false := by simp; omega
  simp only [go_sem, qA, qB, qC, qD, qE, qF, qG, qH]
  repeat refine K ?_
  refine CA [] (tp) ?_
  try simp only [go_sem, qA, qB, qC, qD, qE, qF, qG, qH]
  repeat refine K ?_
  refine CA [] (cs) ?_
  try simp only [go_sem, qA, qB, qC, qD, qE, qF, qG, qH]
  repeat refine K ?_
  try simp only [go_sem, qA, qB, qC, qD, qE, qF, qG, qH]
  repeat refine K ?_
  refine CA [] (tp) ?_
  try simp only [go_sem, qA, qB, qC, qD, qE, qF, qG, qH]
  repeat refine K ?_
  refine CA [] (ci) ?_
  try simp only [go_sem, qA, qB, qC, qD, qE, qF, qG, qH]
  repeat refine K ?_
  try simp only [go_sem, qA, qB, qC, qD, qE, qF, qG, qH]
  repeat refine K ?_
  refine CA [] (ew) ?_
  try simp only [go_sem, qA, qB, qC, qD, qE, qF, qG, qH]
  repeat refine K ?_
  try simp only [go_sem, qA, qB, qC, qD, qE, qF, qG, qH, eb]
  repeat refine K ?_
  refine DA [] (tp) ?_
  try simp only [go_sem, qA, qB, qC, qD, qE, qF, qG, qH]
  repeat refine K ?_
  refine DA [] (ep) ?_
  try simp only [go_sem, qA, qB, qC, qD, qE, qF, qG, qH]
  repeat refine K ?_
  try simp only [go_sem, qA, qB, qC, qD, qE, qF, qG, qH]
  repeat refine K ?_
  refine CA [(0, 14), (1, 15)] (markProg_ok p 1 (by omega) (by omega) (by omega)) ?_
  try simp only [go_sem, qA, qB, qC, qD, qE, qF, qG, qH]
  repeat refine K ?_
  try simp only [go_sem, qA, qB, qC, qD, qE, qF, qG, qH, d2]
  repeat refine K ?_
  refine CA [] (ew) ?_
  try simp only [go_sem, qA, qB, qC, qD, qE, qF, qG, qH]
  repeat refine K ?_
  try simp only [go_sem, qA, qB, qC, qD, qE, qF, qG, qH, eb]
  repeat refine K ?_
  refine CA [(0, 17)] (hm) ?_
  try simp only [go_sem, qA, qB, qC, qD, qE, qF, qG, qH]
  repeat refine K ?_
  try simp only [go_sem, qA, qB, qC, qD, qE, qF, qG, qH]
  repeat refine K ?_
  refine CA [] (hh) ?_
  try simp only [go_sem, qA, qB, qC, qD, qE, qF, qG, qH]
  repeat refine K ?_
  try simp only [go_sem, qA, qB, qC, qD, qE, qF, qG, qH, d1]
  repeat refine K ?_
  refine CA [] (tp) ?_
  try simp only [go_sem, qA, qB, qC, qD, qE, qF, qG, qH]
  repeat refine K ?_
  refine CA [] (ci) ?_
  try simp only [go_sem, qA, qB, qC, qD, qE, qF, qG, qH]
  repeat refine K ?_
  try simp only [go_sem, qA, qB, qC, qD, qE, qF, qG, qH]
  repeat refine K ?_
  refine CA [] (ew) ?_
  try simp only [go_sem, qA, qB, qC, qD, qE, qF, qG, qH]
  repeat refine K ?_
  try simp only [go_sem, qA, qB, qC, qD, qE, qF, qG, qH, eb]
  repeat refine K ?_
  refine CA [] (hh) ?_
  try simp only [go_sem, qA, qB, qC, qD, qE, qF, qG, qH]
  repeat refine K ?_
  try simp only [go_sem, qA, qB, qC, qD, qE, qF, qG, qH, d1]
  repeat refine K ?_
  refine ⟨_, Sub.refl _, ?_⟩; simp [FinS, nilL, nilV, oneOr, -List.drop_one]


end Go.Sep
