/- Contracts of functions. -/
import Derived.Test.YtjbknbgdfhihcaaGreatUN0
namespace Go.Sep
open Go.Proofs
set_option linter.unusedSimpArgs false
set_option linter.unusedVariables false
set_option maxRecDepth 100000
open Nat renaming reduceAdd → qA, reduceMul → qB, reduceEqDiff → qC, reduceBEq → qD
open Int renaming reduceToNat → qE, reduceEq → qF, reduceLT → qG, reduceLE → qH
open List renaming getD_eq_getElem?_getD → gD
def m372 : MFn := ⟨22, [.t 2], .seq (xr [xo 2 (.mv (.c (.nil)))]) (.seq (xr [xo 5 (.mkSl [.nil] 0 []), xv 3 5]) (.seq (.seq (xr [xo 4 (.mv (xi 0))]) (.blk 0 (.loop (.seq (.seq (xr [xv 6 4, xv 7 0, xe 8 7, xo 9 (.bin .lss (.t 6) (.t 8))]) (.cond 9 (.skip) (.exit 0))) (.seq (.blk 1 (xr [xv 12 3, xo 13 (.mkSl [xz, xz, xz, xz, xz] 0 []), xv 14 0, xv 15 4, xo 16 (.iad 1 (.t 14) (.t 15)), xl 17 16, xo 18 (.app 5 40 (.t 13) (.t 17)), xo 19 (.mkSl [.nil] 1 [(0, .t 18)]), xo 20 (.app 1 24 (.t 12) (.t 19)), xv 3 20])) (xr [xv 10 4, xo 11 (.bin .add (.t 10) (xi 1)), xv 4 11])))))) (.seq (xr [xv 21 3, xv 2 21]) (.ret))))⟩
theorem codes_next (l : List (List Step)) (i : Nat) (h : i < l.length) : codes .own (l.take i) ++ [[AV.sl .own 5 (steps (l.getD i []))]] = codes .own (l.take (i + 1)) := by
 rw [List.take_succ_eq_append_getElem h, ← codes_append]
 simp [codes, List.getD_eq_getElem?_getD, h]
set_option maxHeartbeats 4000000 in
theorem l8Codes_ok (l : List (List Step)) (h1 : l.length < 2 ^ 40) (h2 : ∀ c ∈ l, c.length < 2 ^ 40) : CallOk Tryz.prog num 372 [.sl .bw 1 (codes .bw l)] [] (.sl .own 1 (codes .own l)) := by
 refine EN m372 Tryz.func122 ?_
 unfold m372
 simp only [go_sem, qA, qB, qC, qD, qE, qF, qG, qH]
 repeat refine K ?_
 refine qA6 (ι := Nat) (fun i => .mk [(0, .sl .bw 1 (codes .bw l)), (3, .ns 10 0 i), (4, .int .i64 i)] [(10, 1, codes .own (l.take i))] 11) (fun i => i ≤ l.length) (fun i => l.length - i) 0 (by simp) ?_ ?_
 ·refine Sub.shape [] id (by omega) ?_ ?_ ?_ ?_ <;> simp [qA2]
 ·rintro i hi
  simp only [go_sem, qA, qB, qC, qD, qE, qF, qG, qH]
  refine qA1 (fun hc => ?_) (fun hc => ?_)
  ·simp only [decide_eq_true_eq] at hc
   have hl' : i < l.length := by omega
   have hlt : (l.take i).length = i := by simp; omega
   have hr := h2 _ (qA9 l i [] hl')
   simp only [go_sem, qA, qB, qC, qD, qE, qF, qG, qH, qA4 (i := i) (by omega), qBc .bw l i hl', hlt]
   repeat refine K ?_
   refine qA5 (i + 1) ?_ hl' (by omega)
   refine Sub.trans (Sub.foldLast 14 0 12 rfl (by simp [-gD] <;> omega) rfl (by decide) (by decide) rfl) ?_
   simp only [fS, fS2, qA, qC, codes_next l i hl']
   refine Sub.shape [] (fun n => if n = 10 then 14 else n) (by omega) ?_ ?_ ?_ ?_ <;> simp [qA2]
  ·simp only [decide_eq_false_iff_not] at hc
   obtain rfl : i = l.length := by omega
   have hie : l.take l.length = l := List.take_length
   simp only [go_sem, qA, qB, qC, qD, qE, qF, qG, qH, hie]
   repeat refine K ?_
   refine fz ?_; simp [FinS, nilL, nilV, oneOr, -List.drop_one]
end Go.Sep
