/- Contracts of functions. -/
import Derived.Test.YtjbknbgdfhihcaaGreatUK0
import Derived.Test.YtjbknbgdfhihcaaGreatUa1
namespace Go.Sep
open Go.Proofs
set_option linter.unusedSimpArgs false
set_option linter.unusedVariables false
set_option maxRecDepth 100000
open Nat renaming reduceAdd → qA, reduceMul → qB, reduceEqDiff → qC, reduceBEq → qD
open Int renaming reduceToNat → qE, reduceEq → qF, reduceLT → qG, reduceLE → qH
def m115 : MFn := ⟨11, [.cell 2 2 true], .seq (xr [xb 1 0, xo 2 (.alloc [xz, xz])]) (.seq (xr [xo 3 (.alloc [xz, xz])]) (.seq (xr [xa 4 0 1, xl 5 4, xa 6 0 3, ⟨none, .store 1 (.t 6) (.t 5), none⟩]) (.seq (xr [xa 7 1 1, xl 8 7, xa 9 1 3, ⟨none, .store 1 (.t 9) (.t 8), none⟩]) (.seq (xr [xm 10 2 3, ⟨none, .store 2 (.t 2) (.t 10), none⟩]) (.ret)))))⟩
def m116 : MFn := ⟨23, [.t 2], .seq (xr [xo 2 (.mv (.c (.nil)))]) (.seq (xr [xv 5 0, xe 6 5, xo 7 (.mkS [xz, xz] 16 (.t 6) (.t 6)), xv 3 7]) (.seq (.seq (xr [xo 4 (.mv (xi 0))]) (.blk 0 (.loop (.seq (.seq (xr [xv 8 4, xv 9 0, xe 10 9, xo 11 (.bin .lss (.t 8) (.t 10))]) (.cond 11 (.skip) (.exit 0))) (.seq (.blk 1 (xr [xv 14 3, xv 15 4, xv 16 0, xv 17 4, xo 18 (.iad 2 (.t 16) (.t 17)), xm 19 2 18, xc1 20 115 (.t 19), xo 21 (.iad 2 (.t 14) (.t 15)), ⟨none, .store 2 (.t 21) (.t 20), none⟩])) (xr [xv 12 4, xo 13 (.bin .add (.t 12) (xi 1)), xv 4 13])))))) (.seq (xr [xv 22 3, xv 2 22]) (.ret))))⟩
def m117 : MFn := ⟨12, [.t 4], .seq (xr [xo 4 (.mv (xi 0))]) (.seq (xr [xv 5 1, xv 6 0, xe 7 6, xo 8 (.bin .sub (.t 5) (.t 7)), xv 1 8]) (.seq (.seq (xr [xv 9 1, xo 10 (.bin .lss (.t 9) (xi 0))]) (.cond 10 (.seq (xr [xo 4 (.mv (.c (.int .i64 (-1))))]) (.ret)) (.skip))) (.seq (xr [xv 11 1, xv 4 11]) (.ret))))⟩
theorem szL_small {k : Nat} {n : Int} (h : n < k) : szL k n = -1 := by
 unfold szL
 rw [if_pos (by omega)]
theorem szL_big {k : Nat} {n : Int} (h : ¬ n < k) : szL k n = n - k := by
 unfold szL
 rw [if_neg (by omega)]
theorem toNote_ok (x : Note) : CallOk Tryz.prog num 115 [.agg (noteC x)] [] (.agg (noteC x)) := by
 refine EN m115 Tryz.func132 ?_
 unfold m115
 simp only [go_sem, qA, qB, qC, qD, qE, qF, qG, qH]
 repeat refine K ?_
 refine ⟨_, Sub.refl _, qAe ?_⟩; simp [-List.drop_one]
theorem toNoteS_ok (l : List Note) (hl : 64 * l.length ≤ 2 ^ 47) : CallOk Tryz.prog num 116 [.sl .bw 2 (notes l)] [] (.sl .own 2 (notes l)) := by
 refine EN m116 Tryz.func60 ?_
 unfold m116
 simp only [go_sem, qA, qB, qC, qD, qE, qF, qG, qH]
 repeat refine K ?_
 refine qA6 (ι := Nat) (fun i => .mk [(0, .sl .bw 2 (notes l)), (3, .ns 10 0 l.length), (4, .int .i64 i)] [(10, 2, notes (l.take i ++ List.replicate (l.length - i) ⟨0, 0⟩))] 11) (fun i => i ≤ l.length) (fun i => l.length - i) 0 (by simp) ?_ ?_
 ·refine Sub.shape [] id (by omega) ?_ ?_ ?_ ?_ <;> simp [qA2]
  left
  exact notes_rep _ _ _
 ·intro i hi
  simp only [go_sem, qA, qB, qC, qD, qE, qF, qG, qH]
  refine qA1 (fun hc => ?_) (fun hc => ?_)
  ·simp only [decide_eq_true_eq] at hc
   have hl' : i < l.length := by omega
   have hm := qCt l (⟨0, 0⟩ : Note) i hi
   simp only [go_sem, qA, qB, qC, qD, qE, qF, qG, qH, qDd l i hl', hm]
   repeat refine K ?_
   refine CA [] (toNote_ok (l.getD i default) ) ?_
   try simp only [go_sem, qA, qB, qC, qD, qE, qF, qG, qH]
   repeat refine K ?_
   have hs := fill_set l default (⟨0, 0⟩ : Note) i hl'
   have hs' : (l.take i ++ List.replicate (l.length - i) (⟨0, 0⟩ : Note)).set i ⟨(l.getD i default).who, (l.getD i default).v⟩ = l.take (i + 1) ++ List.replicate (l.length - (i + 1)) ⟨0, 0⟩ := hs
   try simp only [go_sem, qA, qB, qC, qD, qE, qF, qG, qH, qDd _ i (hm ▸ hl'), hm, hs', qA4 (i := i) (by omega)]
   repeat refine K ?_
   refine qA5 (i + 1) (Sub.shape [] id (by omega) ?_ ?_ ?_ ?_) ?_ ?_
   any_goals (first | omega | (simp [qA2]; done))
  ·simp only [decide_eq_false_iff_not] at hc
   have : i = l.length := by omega
   subst this
   simp only [go_sem, qA, qB, qC, qD, qE, qF, qG, qH]
   repeat refine K ?_
   refine fz ?_; simp [FinS, nilL, nilV, oneOr, -List.drop_one]
theorem szNoteS_ok (xs : List Note) (n : Int) (hx : xs.length < 2 ^ 63) (h0 : 0 ≤ n) (h1 : n ≤ 2 ^ 62) : CallOk Tryz.prog num 117 [.sl .bw 2 (notes xs), .int .i64 n] [] (.int .i64 (szL xs.length n)) := by
 refine EN m117 Tryz.func52 ?_
 unfold m117
 have hw : IntKind.i64.wrap (n - xs.length) = n - xs.length := qAc (by omega) (by omega)
 simp only [go_sem, qA, qB, qC, qD, qE, qF, qG, qH, hw]
 repeat refine K ?_
 refine qA1 (fun hc => ?_) (fun hc => ?_)
 ·simp only [go_sem, qA, qB, qC, qD, qE, qF, qG, qH]
  repeat refine K ?_
  refine fz ?_; simp [FinS, nilL, nilV, oneOr, -List.drop_one]
  simp only [decide_eq_true_eq] at hc
  simp [szL, hc]
 ·simp only [go_sem, qA, qB, qC, qD, qE, qF, qG, qH]
  repeat refine K ?_
  refine fz ?_; simp [FinS, nilL, nilV, oneOr, -List.drop_one]
  simp only [decide_eq_false_iff_not] at hc
  simp [szL, hc]
structure Hold (C : Prop) : Prop where
 h : C
end Go.Sep
