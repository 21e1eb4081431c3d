/- Contracts of functions. -/
import Derived.Test.YtjbknbgdfhihcaaGreatVC0
import Derived.Test.YtjbknbgdfhihcaaGreatVW0
namespace Go.Sep
open Go.Proofs
set_option linter.unusedSimpArgs false
set_option linter.unusedVariables false
set_option maxRecDepth 100000
open Nat renaming reduceAdd → qA, reduceMul → qB, reduceEqDiff → qC, reduceBEq → qD
open Int renaming reduceToNat → qE, reduceEq → qF, reduceLT → qG, reduceLE → qH
def m236 : MFn := ⟨63, [.t 10], .seq (xr [xb 5 0, xb 6 1, xF 10]) (.seq (.seq (xr [xv 14 3, xa 15 1 5, xl 16 15, xe 17 16, xo 18 (.bin .geq (.t 14) (.t 17))]) (.cond 18 (.seq (xr [xF 10]) (.ret)) (.skip))) (.seq (xr [xa 20 1 5, xl 21 20, xv 22 3, xo 23 (.iad 1 (.t 21) (.t 22)), xl 24 23, xv 25 4, xc2 26 280 (.t 24) (.t 25), xv 19 26, xo 27 (.ext (.t 19) 0), xo 28 (.ext (.t 19) 1), xv 11 27, xv 12 28]) (.seq (.seq (xr [xv 29 11, xo 30 (.bin .lss (.t 29) (xi 0))]) (.cond 30 (.seq (xr [xF 10]) (.ret)) (.skip))) (.seq (xr [xa 31 0 6, xl 32 31, xo 33 (.bin .eql (.t 32) (xi 8)), xv 34 33, xg 35 (.fad 1 (.t 6)) 34 true, xg 36 (.load 1 false (.t 35)) 34 true, xg 37 (.mv (.t 2)) 34 true, xg 38 (.len (.t 37)) 34 true, xg 39 (.bin .sub (.t 38) (xi 1)) 34 true, xg 40 (.call 59 [false, false, false] [.t 36, xi 0, .t 39]) 34 true, xo 41 (.pick (.t 34) (.t 40) (.c (.bool false))), xv 42 41, xg 43 (.mv (.t 2)) 42 true, xg 44 (.fad 1 (.t 6)) 42 true, xg 45 (.load 1 false (.t 44)) 42 true, xg 46 (.iad 1 (.t 43) (.t 45)) 42 true, xg 47 (.load 1 false (.t 46)) 42 true, xg 48 (.bin .eql (.t 47) (xi 0)) 42 true, xo 49 (.pick (.t 42) (.t 48) (.c (.bool false))), xv 13 49]) (.seq (xr [xv 50 13, xv 51 50, xg 52 (.fad 1 (.t 5)) 51 false, xg 53 (.load 1 false (.t 52)) 51 false, xg 54 (.mv (.t 3)) 51 false, xg 55 (.iad 1 (.t 53) (.t 54)) 51 false, xg 56 (.load 1 false (.t 55)) 51 false, xg 57 (.mv (.t 11)) 51 false, xg 58 (.iad 5 (.t 56) (.t 57)) 51 false, xg 59 (.load 5 true (.t 58)) 51 false, xg 60 (.call 262 [false] [.t 59]) 51 false, xg 61 (.bin .eql (.t 60) (xi 1)) 51 false, xo 62 (.pick (.t 51) (.c (.bool true)) (.t 61)), xv 10 62]) (.ret))))))⟩
theorem placeAt_lt : ∀ (b : List Ins) (off k at_ : Int), (placeAt b off k at_).1 = -1 ∨ (k ≤ (placeAt b off k at_).1 ∧ (placeAt b off k at_).1 < k + b.length)
 | [], _, _, _ => .inl rfl
 | x :: l, off, k, at_ => by
  unfold placeAt
  split
  ·exact .inr ⟨Int.le_refl _, by simp only [List.length_cons]; omega⟩
  ·rcases placeAt_lt l (off + emitSize x) (k + 1) at_ with h | ⟨h1, h2⟩
   ·exact .inl h
   ·exact .inr ⟨by omega, by simp only [List.length_cons]; omega⟩
theorem implCommitsOf_ok (p : Prog) (s : Step) (regs : List Int) (who at_ : Int) (hp : SmallP p) (hw : 0 ≤ who) (hr : regs.length < 2 ^ 40) : CallOk Tryz.prog num 236 [.agg (progC .bw p), .agg (stepC s), .sl .bw 1 (ints regs), .int .i64 who, .int .i64 at_] [] (.bool (commitsI p s regs who at_)) := by
 refine EN m236 Tryz.func188 ?_
 unfold m236
 obtain ⟨i, rfl⟩ := Int.eq_ofNat_of_zero_le hw
 by_cases hb : (i : Int) < p.bods.length
 case neg =>
  have hb' : (p.bods.length : Int) ≤ i := by omega
  simp only [go_sem, qA, qB, qC, qD, qE, qF, qG, qH, hb']
  repeat refine K ?_
  refine fz ?_; simp [FinS, nilL, nilV, oneOr, -List.drop_one]
  simp [commitsI, hb]
 have hb' : ¬ (p.bods.length : Int) ≤ i := by omega
 have hbi : i < p.bods.length := by omega
 have hbl := hp.body _ (qAc p.bods i [] hbi)
 have hbg := qBp .bw p.bods i hbi
 have hpl := placeAt_lt (p.bods.getD i []) 0 0 at_
 have hci : commitsI p s regs i at_ = (decide (0 ≤ (placeAt (p.bods.getD i []) 0 0 at_).1) &&
  ((decide (s.op = 8) && within s.r 0 (regs.length - 1) && decide (regs.getD s.r.toNat 0 = 0)) || decide (emitSize ((p.bods.getD i []).getD (placeAt (p.bods.getD i []) 0 0 at_).1.toNat default) = 1))) := by
  have d : decide ((i : Int) < (p.bods.length : Int)) = true := by simpa using hbi
  unfold commitsI
  rw [d, Bool.true_and]
  rfl
 rw [hci]
 simp only [go_sem, qA, qB, qC, qD, qE, qF, qG, qH, hb', hbg]
 repeat refine K ?_
 refine CA [] (implPlaceAt_ok (p.bods.getD i []) at_ hbl) ?_
 try simp only [go_sem, qA, qB, qC, qD, qE, qF, qG, qH]
 repeat refine K ?_
 generalize hpl2 : (placeAt (p.bods.getD i []) 0 0 at_).1 = pl at *
 by_cases h0 : pl < 0
 ·try simp only [go_sem, qA, qB, qC, qD, qE, qF, qG, qH, h0]
  repeat refine K ?_
  refine fz ?_; simp [FinS, nilL, nilV, oneOr, -List.drop_one]
  have : ¬ 0 ≤ pl := by omega
  simp [this]
 have h0' : 0 ≤ pl := by omega
 obtain ⟨j, rfl⟩ := Int.eq_ofNat_of_zero_le h0'
 have hj : j < (p.bods.getD i []).length := by omega
 have hig := qBo (p.bods.getD i []) j hj
 have d0 : decide (0 ≤ (j : Int)) = true := by simp
 rw [d0, Bool.true_and]
 simp only [Int.toNat_natCast]
 have w1 : IntKind.i64.wrap ((regs.length : Int) - 1) = regs.length - 1 := qAl (by omega) (by omega)
 generalize hbd : p.bods.getD i [] = b at *
 try simp only [go_sem, qA, qB, qC, qD, qE, qF, qG, qH, h0]
 repeat refine K ?_
 by_cases h8 : s.op = 8
 ·simp only [go_sem, qA, qB, qC, qD, qE, qF, qG, qH, h8, w1]
  repeat refine K ?_
  refine CA [] (qAi s.r 0 (regs.length - 1)) ?_
  try simp only [go_sem, qA, qB, qC, qD, qE, qF, qG, qH]
  repeat refine K ?_
  cases hwi : within s.r 0 (regs.length - 1)
  ·try simp only [go_sem, qA, qB, qC, qD, qE, qF, qG, qH, hwi, hb', hbg, hig]
   repeat refine K ?_
   refine CA [] (qCm (b.getD j default)) ?_
   try simp only [go_sem, qA, qB, qC, qD, qE, qF, qG, qH]
   repeat refine K ?_
   try simp only [go_sem, qA, qB, qC, qD, qE, qF, qG, qH]
   repeat refine K ?_
   refine fz ?_; simp [FinS, nilL, nilV, oneOr, -List.drop_one]
  have hwi' := within_iff.1 hwi
  have hrl : s.r.toNat < regs.length := by omega
  try simp only [go_sem, qA, qB, qC, qD, qE, qF, qG, qH, hwi, qA0 regs s.r.toNat hrl]
  repeat refine K ?_
  by_cases hz : regs.getD s.r.toNat 0 = 0
  ·try simp only [go_sem, qA, qB, qC, qD, qE, qF, qG, qH, hz]
   repeat refine K ?_
   refine fz ?_; simp [FinS, nilL, nilV, oneOr, -List.drop_one]
  ·try simp only [go_sem, qA, qB, qC, qD, qE, qF, qG, qH, hz, hb', hbg, hig]
   repeat refine K ?_
   refine CA [] (qCm (b.getD j default)) ?_
   try simp only [go_sem, qA, qB, qC, qD, qE, qF, qG, qH]
   repeat refine K ?_
   try simp only [go_sem, qA, qB, qC, qD, qE, qF, qG, qH]
   repeat refine K ?_
   refine fz ?_; simp [FinS, nilL, nilV, oneOr, -List.drop_one]
 ·simp only [go_sem, qA, qB, qC, qD, qE, qF, qG, qH, h8, hb', hbg, hig]
  repeat refine K ?_
  refine CA [] (qCm (b.getD j default)) ?_
  try simp only [go_sem, qA, qB, qC, qD, qE, qF, qG, qH]
  repeat refine K ?_
  try simp only [go_sem, qA, qB, qC, qD, qE, qF, qG, qH]
  repeat refine K ?_
  refine fz ?_; simp [FinS, nilL, nilV, oneOr, -List.drop_one]
end Go.Sep
