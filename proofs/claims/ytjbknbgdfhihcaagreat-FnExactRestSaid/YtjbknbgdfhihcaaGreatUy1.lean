/- Contracts of functions. -/
import Derived.Test.YtjbknbgdfhihcaaGreatUy0
import Derived.Test.YtjbknbgdfhihcaaGreatUt1
namespace Go.Sep
open Go.Proofs
set_option linter.unusedSimpArgs false
set_option linter.unusedVariables false
set_option maxRecDepth 100000
open Nat renaming reduceAdd → qA, reduceMul → qB, reduceEqDiff → qC, reduceBEq → qD
open Int renaming reduceToNat → qE, reduceEq → qF, reduceLT → qG, reduceLE → qH
def m230 : MFn := ⟨29, [.t 6, .t 7], .seq (xr [xb 3 0, xo 6 (.mv (xi 0)), xF 7]) (.seq (.seq (xr [xm 8 2 3, xc1 9 48 (.t 8), xo 10 (.un .«not» (.t 9)), xv 11 10, xg 12 (.mv (.t 1)) 11 false, xg 13 (.fad 1 (.t 3)) 11 false, xg 14 (.load 1 false (.t 13)) 11 false, xg 15 (.len (.t 14)) 11 false, xg 16 (.bin .sub (.t 15) (xi 1)) 11 false, xg 17 (.call 59 [false, false, false] [.t 12, xi 0, .t 16]) 11 false, xg 18 (.un .«not» (.t 17)) 11 false, xo 19 (.pick (.t 11) (.c (.bool true)) (.t 18))]) (.cond 19 (.seq (xr [xo 6 (.mv (.c (.int .i64 (-1)))), xF 7]) (.ret)) (.skip))) (.seq (xr [xa 20 1 3, xl 21 20, xv 22 1, xo 23 (.iad 1 (.t 21) (.t 22)), xl 24 23, xv 25 2, xc2 26 280 (.t 24) (.t 25), xo 27 (.ext (.t 26) 0), xo 28 (.ext (.t 26) 1), xv 6 27, xv 7 28]) (.ret)))⟩
theorem implPlaceOf_ok (p : Prog) (k at_ : Int) (hp : SmallP p) : CallOk Tryz.prog num 230 [.agg (progC .bw p), .int .i64 k, .int .i64 at_] [] (.tup [.int .i64 (placeOf p k at_).1, .bool (placeOf p k at_).2]) := by
 obtain ⟨h1, h2, h3⟩ := hp
 have w1 : IntKind.i64.wrap ((p.bods.length : Int) - 1) = p.bods.length - 1 := qAc (by omega) (by omega)
 refine EN m230 Tryz.func179 ?_
 unfold m230
 simp only [go_sem, qA, qB, qC, qD, qE, qF, qG, qH]
 repeat refine K ?_
 refine CA [] (implProgOk_ok p (by omega) (by omega) (fun b hb => by have := h3 b hb; omega)) ?_
 try simp only [go_sem, qA, qB, qC, qD, qE, qF, qG, qH]
 repeat refine K ?_
 cases hok : progOk p
 ·try simp only [go_sem, qA, qB, qC, qD, qE, qF, qG, qH, hok]
  repeat refine K ?_
  refine ⟨_, Sub.refl _, qAo (by simp) ?_⟩; simp [-List.drop_one]
  simp [placeOf, hok]
 try simp only [go_sem, qA, qB, qC, qD, qE, qF, qG, qH, hok, w1]
 repeat refine K ?_
 refine CA [] (qAl k 0 (p.bods.length - 1)) ?_
 try simp only [go_sem, qA, qB, qC, qD, qE, qF, qG, qH]
 repeat refine K ?_
 cases hw : within k 0 (p.bods.length - 1)
 ·try simp only [go_sem, qA, qB, qC, qD, qE, qF, qG, qH, hw]
  repeat refine K ?_
  refine ⟨_, Sub.refl _, qAo (by simp) ?_⟩; simp [-List.drop_one]
  simp [placeOf, hw]
 have hw' := within_iff.1 hw
 have hk : k.toNat < p.bods.length := by omega
 try simp only [go_sem, qA, qB, qC, qD, qE, qF, qG, qH, hw, qB8 .bw p.bods k.toNat hk]
 repeat refine K ?_
 refine CA [] (implPlaceAt_ok (p.bods.getD k.toNat []) at_ (h3 _ (qA9 p.bods k.toNat [] hk))) ?_
 try simp only [go_sem, qA, qB, qC, qD, qE, qF, qG, qH]
 repeat refine K ?_
 try simp only [go_sem, qA, qB, qC, qD, qE, qF, qG, qH]
 repeat refine K ?_
 refine ⟨_, Sub.refl _, qAo (by simp) ?_⟩; simp [-List.drop_one]
 simp [placeOf, hok, hw]
end Go.Sep
