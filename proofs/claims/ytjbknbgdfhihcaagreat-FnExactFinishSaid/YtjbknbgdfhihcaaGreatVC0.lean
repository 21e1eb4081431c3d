/- Contracts of functions. -/
import Derived.Test.YtjbknbgdfhihcaaGreatVy0
import Derived.Test.YtjbknbgdfhihcaaGreatVA0
namespace Go.Sep
open Go.Proofs
set_option linter.unusedSimpArgs false
set_option linter.unusedVariables false
set_option maxRecDepth 100000
open Nat renaming reduceAdd → qA, reduceMul → qB, reduceEqDiff → qC, reduceBEq → qD
open Int renaming reduceToNat → qE, reduceEq → qF, reduceLT → qG, reduceLE → qH
def m225 : MFn := ⟨38, [.t 6], .seq (xr [xb 3 0, xb 4 1, xF 6]) (.seq (.seq (xr [xv 9 2, xa 10 1 4, xl 11 10, xe 12 11, xo 13 (.bin .sub (.t 12) (xi 1)), xc3 14 64 (.t 9) (xi 0) (.t 13), xo 15 (.un .«not» (.t 14)), xv 16 15, xg 17 (.fad 1 (.t 4)) 16 false, xg 18 (.load 1 false (.t 17)) 16 false, xg 19 (.mv (.t 2)) 16 false, xg 20 (.iad 4 (.t 18) (.t 19)) 16 false, xg 21 (.fad 3 (.t 20)) 16 false, xg 22 (.load 1 false (.t 21)) 16 false, xg 23 (.bin .neq (.t 22) (xi 0)) 16 false, xo 24 (.pick (.t 16) (.c (.bool true)) (.t 23))]) (.cond 24 (.seq (xr [xF 6]) (.ret)) (.skip))) (.seq (.dreg (.take 0 (xm 26 2 3) (.take 1 (xv 27 2) (.take 2 (xa 28 1 4) (.take 3 (xl 29 28) (.only 4 [] (xv 30 2) (.only 5 [3, 2] (xo 31 (.iad 4 (.t 29) (.t 30))) (.only 6 [5, 3, 2] (xa 32 0 31) (.only 7 [6, 5, 3, 2] (xl 33 32) (.only 8 [0, 1, 7, 6, 5, 3, 2] (xc3 34 224 (.t 26) (.t 27) (.t 33)) (.only 9 [8, 0, 1, 7, 6, 5, 3, 2] (xv 25 34) (.take 10 (xo 35 (.ext (.t 25) 0)) (.take 11 (xo 36 (.ext (.t 25) 1)) (.only 12 [0, 1, 2, 3, 10] (xv 7 35) (.only 13 [0, 1, 2, 3, 10, 11] (xv 8 36) (.done)))))))))))))))) (.seq (xr [xv 37 8, xv 6 37]) (.ret))))⟩
def m229 : MFn := ⟨13, [.t 4], .seq (xr [xF 4]) (.seq (xr [xv 5 1, xv 6 0, xk 7 6, xa 8 1 7, xl 9 8, xe 10 9, xo 11 (.bin .sub (.t 10) (xi 1)), xc3 12 59 (.t 5) (xi 0) (.t 11), xv 4 12]) (.ret))⟩
theorem isCore_ok (m : Machine) (who : Int) (hl : m.cores.length < 2 ^ 40) : CallOk Tryz.prog num 229 [.fptr .bw (machineC .bw m) 0, .int .i64 who] [] (.bool (within who 0 (m.cores.length - 1))) := by
 have w1 : IntKind.i64.wrap ((m.cores.length : Int) - 1) = m.cores.length - 1 := qAl (by omega) (by omega)
 refine EN m229 Tryz.func141 ?_
 unfold m229
 simp only [go_sem, qA, qB, qC, qD, qE, qF, qG, qH, w1]
 repeat refine K ?_
 refine CA [] (qAi who 0 (m.cores.length - 1)) ?_
 try simp only [go_sem, qA, qB, qC, qD, qE, qF, qG, qH]
 repeat refine K ?_
 refine fz ?_; simp [FinS, nilL, nilV, oneOr, -List.drop_one]
def between (p : Prog) (m : Machine) (who : Int) : Bool := within who 0 (m.cores.length - 1) && decide ((m.cores.getD who.toNat default).st = 0) && (placeOf p who (m.cores.getD who.toNat default).at_).2
theorem specBetween_ok (p : Prog) (m : Machine) (who : Int) (hp : SmallP p) (hl : m.cores.length < 2 ^ 40) : CallOk Tryz.prog num 225 [.agg (progC .bw p), .agg (machineC .bw m), .int .i64 who] [] (.bool (between p m who)) := by
 have w1 : IntKind.i64.wrap ((m.cores.length : Int) - 1) = m.cores.length - 1 := qAl (by omega) (by omega)
 refine EN m225 Tryz.func171 ?_
 unfold m225
 simp only [go_sem, qA, qB, qC, qD, qE, qF, qG, qH, w1]
 repeat refine K ?_
 refine CA [] (qAr who 0 (m.cores.length - 1)) ?_
 try simp only [go_sem, qA, qB, qC, qD, qE, qF, qG, qH]
 repeat refine K ?_
 cases hw : within who 0 (m.cores.length - 1)
 ·try simp only [go_sem, qA, qB, qC, qD, qE, qF, qG, qH, hw]
  repeat refine K ?_
  refine fz ?_; simp [FinS, nilL, nilV, oneOr, -List.drop_one]
  simp [between, hw]
 have hw' := within_iff.1 hw
 have hk : who.toNat < m.cores.length := by omega
 have hcg := qAg .bw m.cores who.toNat hk
 try simp only [go_sem, qA, qB, qC, qD, qE, qF, qG, qH, hw, hcg]
 repeat refine K ?_
 by_cases hst : (m.cores.getD who.toNat default).st = 0
 ·try simp only [go_sem, qA, qB, qC, qD, qE, qF, qG, qH, hst, hcg]
  repeat refine K ?_
  refine DA [] (specPlaceOf_ok p who (m.cores.getD who.toNat default).at_ hp) ?_
  try simp only [go_sem, qA, qB, qC, qD, qE, qF, qG, qH]
  repeat refine K ?_
  try simp only [go_sem, qA, qB, qC, qD, qE, qF, qG, qH]
  repeat refine K ?_
  refine fz ?_; simp [FinS, nilL, nilV, oneOr, -List.drop_one]
  have hq : between p m who = (placeOf p who (m.cores.getD who.toNat default).at_).2 := by
   unfold between
   rw [hw, hst]
   rfl
  rw [hq]
  simp
 ·try simp only [go_sem, qA, qB, qC, qD, qE, qF, qG, qH, hst, hcg]
  repeat refine K ?_
  refine fz ?_; simp [FinS, nilL, nilV, oneOr, -List.drop_one]
  simp [-List.getD_eq_getElem?_getD, between, hst]
end Go.Sep
