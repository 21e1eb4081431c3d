/- Contracts of functions. -/
import Derived.Test.YtjbknbgdfhihcaaGreatUP0
import Derived.Test.YtjbknbgdfhihcaaGreatUX2
namespace Go.Sep
open Go.Proofs
set_option linter.unusedSimpArgs false
set_option linter.unusedVariables false
set_option maxRecDepth 100000
open Nat renaming reduceAdd → qA, reduceMul → qB, reduceEqDiff → qC, reduceBEq → qD
open Int renaming reduceToNat → qE, reduceEq → qF, reduceLT → qG, reduceLE → qH
def m348 : MFn := ⟨11, [.cell 2 2 true], .seq (xr [xb 1 0, xo 2 (.alloc [xz, xz])]) (.seq (xr [xo 3 (.alloc [xz, xz])]) (.seq (xr [xa 4 0 1, xl 5 4, xa 6 0 3, ⟨none, .store 1 (.t 6) (.t 5), none⟩]) (.seq (xr [xa 7 1 1, xl 8 7, xa 9 1 3, ⟨none, .store 1 (.t 9) (.t 8), none⟩]) (.seq (xr [xm 10 2 3, ⟨none, .store 2 (.t 2) (.t 10), none⟩]) (.ret)))))⟩
def m384 : MFn := ⟨12, [.t 4], .seq (xr [xo 4 (.mv (xi 0))]) (.seq (xr [xv 5 1, xv 6 0, xe 7 6, xo 8 (.bin .sub (.t 5) (.t 7)), xv 1 8]) (.seq (.seq (xr [xv 9 1, xo 10 (.bin .lss (.t 9) (xi 0))]) (.cond 10 (.seq (xr [xo 4 (.mv (.c (.int .i64 (-1))))]) (.ret)) (.skip))) (.seq (xr [xv 11 1, xv 4 11]) (.ret))))⟩
def m385 : MFn := ⟨23, [.t 2], .seq (xr [xo 2 (.mv (.c (.nil)))]) (.seq (xr [xv 5 0, xe 6 5, xo 7 (.mkS [xz, xz] 16 (.t 6) (.t 6)), xv 3 7]) (.seq (.seq (xr [xo 4 (.mv (xi 0))]) (.blk 0 (.loop (.seq (.seq (xr [xv 8 4, xv 9 0, xe 10 9, xo 11 (.bin .lss (.t 8) (.t 10))]) (.cond 11 (.skip) (.exit 0))) (.seq (.blk 1 (xr [xv 14 3, xv 15 4, xv 16 0, xv 17 4, xo 18 (.iad 2 (.t 16) (.t 17)), xm 19 2 18, xc1 20 348 (.t 19), xo 21 (.iad 2 (.t 14) (.t 15)), ⟨none, .store 2 (.t 21) (.t 20), none⟩])) (xr [xv 12 4, xo 13 (.bin .add (.t 12) (xi 1)), xv 4 13])))))) (.seq (xr [xv 22 3, xv 2 22]) (.ret))))⟩
def m388 : MFn := ⟨27, [.t 4], .seq (xr [xF 4]) (.seq (.seq (xr [xv 6 0, xe 7 6, xv 8 1, xe 9 8, xo 10 (.bin .neq (.t 7) (.t 9))]) (.cond 10 (.seq (xr [xF 4]) (.ret)) (.skip))) (.seq (.seq (xr [xo 5 (.mv (xi 0))]) (.blk 0 (.loop (.seq (.seq (xr [xv 11 5, xv 12 0, xe 13 12, xo 14 (.bin .lss (.t 11) (.t 13))]) (.cond 14 (.skip) (.exit 0))) (.seq (.blk 1 (.seq (.dreg (.take 0 (xv 17 0) (.take 1 (xv 18 5) (.take 2 (xo 19 (.iad 2 (.t 17) (.t 18))) (.take 3 (xm 20 2 19) (.take 4 (xv 21 1) (.only 5 [] (xv 22 5) (.only 6 [4] (xo 23 (.iad 2 (.t 21) (.t 22))) (.only 7 [6, 4] (xm 24 2 23) (.only 8 [3, 7, 2, 6, 0, 1, 4] (xc2 25 414 (.t 20) (.t 24)) (.only 9 [8, 3, 7, 2, 6, 0, 1, 4] (xo 26 (.un .«not» (.t 25))) (.done)))))))))))) (.cond 26 (.seq (xr [xF 4]) (.ret)) (.skip)))) (xr [xv 15 5, xo 16 (.bin .add (.t 15) (xi 1)), xv 5 16])))))) (.seq (xr [xT 4]) (.ret))))⟩
def m389 : MFn := ⟨27, [.t 4], .seq (xr [xo 4 (.mv (xi 0))]) (.seq (.seq (xr [xo 5 (.mv (xi 0))]) (.blk 0 (.loop (.seq (.seq (xr [xv 6 5, xv 7 0, xe 8 7, xo 9 (.bin .lss (.t 6) (.t 8))]) (.cond 9 (.skip) (.exit 0))) (.seq (.blk 1 (.seq (xr [xv 12 0, xv 13 5, xv 14 1, xo 15 (.iad 2 (.t 12) (.t 13)), xa 16 0 15, ⟨none, .store 1 (.t 16) (.t 14), none⟩]) (.seq (xr [xv 17 1, xo 18 (.bin .add (.t 17) (xi 1)), xv 1 18]) (.seq (xr [xv 19 0, xv 20 5, xv 21 1, xo 22 (.iad 2 (.t 19) (.t 20)), xa 23 1 22, ⟨none, .store 1 (.t 23) (.t 21), none⟩]) (xr [xv 24 1, xo 25 (.bin .add (.t 24) (xi 1)), xv 1 25]))))) (xr [xv 10 5, xo 11 (.bin .add (.t 10) (xi 1)), xv 5 11])))))) (.seq (xr [xv 26 1, xv 4 26]) (.ret)))⟩
def m414 : MFn := ⟨15, [.t 4], .seq (xr [xb 2 0, xb 3 1, xF 4]) (.seq (.seq (xr [xa 5 0 2, xl 6 5, xa 7 0 3, xl 8 7, xo 9 (.bin .neq (.t 6) (.t 8))]) (.cond 9 (.seq (xr [xF 4]) (.ret)) (.skip))) (.seq (.seq (xr [xa 10 1 2, xl 11 10, xa 12 1 3, xl 13 12, xo 14 (.bin .neq (.t 11) (.t 13))]) (.cond 14 (.seq (xr [xF 4]) (.ret)) (.skip))) (.seq (xr [xT 4]) (.ret))))⟩
theorem toPick_ok (x : Pick) : CallOk Tryz.prog num 348 [.agg (pickC x)] [] (.agg (pickC x)) := by
 refine EN m348 Tryz.func61 ?_
 unfold m348
 simp only [go_sem, qA, qB, qC, qD, qE, qF, qG, qH]
 repeat refine K ?_
 refine ⟨_, Sub.refl _, qAe ?_⟩; simp [-List.drop_one]
theorem toPickS_ok (l : List Pick) (hl : 64 * l.length ≤ 2 ^ 47) : CallOk Tryz.prog num 385 [.sl .bw 2 (pcks l)] [] (.sl .own 2 (pcks l)) := by
 refine EN m385 Tryz.func16 ?_
 unfold m385
 simp only [go_sem, qA, qB, qC, qD, qE, qF, qG, qH]
 repeat refine K ?_
 refine qA6 (ι := Nat) (fun i => .mk [(0, .sl .bw 2 (pcks l)), (3, .ns 10 0 l.length), (4, .int .i64 i)] [(10, 2, pcks (l.take i ++ List.replicate (l.length - i) ⟨0, 0⟩))] 11) (fun i => i ≤ l.length) (fun i => l.length - i) 0 (by simp) ?_ ?_
 ·refine Sub.shape [] id (by omega) ?_ ?_ ?_ ?_ <;> simp [qA2]
  left
  exact pcks_rep _ _ _
 ·intro i hi
  simp only [go_sem, qA, qB, qC, qD, qE, qF, qG, qH]
  refine qA1 (fun hc => ?_) (fun hc => ?_)
  ·simp only [decide_eq_true_eq] at hc
   have hl' : i < l.length := by omega
   have hm := qCt l (⟨0, 0⟩ : Pick) i hi
   simp only [go_sem, qA, qB, qC, qD, qE, qF, qG, qH, pcks_getD l i hl', hm]
   repeat refine K ?_
   refine CA [] (toPick_ok (l.getD i default) ) ?_
   try simp only [go_sem, qA, qB, qC, qD, qE, qF, qG, qH]
   repeat refine K ?_
   have hs := fill_set l default (⟨0, 0⟩ : Pick) i hl'
   have hs' : (l.take i ++ List.replicate (l.length - i) (⟨0, 0⟩ : Pick)).set i ⟨(l.getD i default).who, (l.getD i default).late⟩ = l.take (i + 1) ++ List.replicate (l.length - (i + 1)) ⟨0, 0⟩ := hs
   try simp only [go_sem, qA, qB, qC, qD, qE, qF, qG, qH, pcks_getD _ i (hm ▸ hl'), hm, hs', qA4 (i := i) (by omega)]
   repeat refine K ?_
   refine qA5 (i + 1) (Sub.shape [] id (by omega) ?_ ?_ ?_ ?_) ?_ ?_
   any_goals (first | omega | (simp [qA2]; done))
  ·simp only [decide_eq_false_iff_not] at hc
   have : i = l.length := by omega
   subst this
   simp only [go_sem, qA, qB, qC, qD, qE, qF, qG, qH]
   repeat refine K ?_
   refine fz ?_; simp [FinS, nilL, nilV, oneOr, -List.drop_one]
theorem szPickS_ok (xs : List Pick) (n : Int) (hx : xs.length < 2 ^ 63) (h0 : 0 ≤ n) (h1 : n ≤ 2 ^ 62) : CallOk Tryz.prog num 384 [.sl .bw 2 (pcks xs), .int .i64 n] [] (.int .i64 (szL xs.length n)) := by
 refine EN m384 Tryz.func13 ?_
 unfold m384
 have hw : IntKind.i64.wrap (n - xs.length) = n - xs.length := qAc (by omega) (by omega)
 simp only [go_sem, qA, qB, qC, qD, qE, qF, qG, qH, hw]
 repeat refine K ?_
 refine qA1 (fun hc => ?_) (fun hc => ?_)
 ·simp only [go_sem, qA, qB, qC, qD, qE, qF, qG, qH]
  repeat refine K ?_
  refine fz ?_; simp [FinS, nilL, nilV, oneOr, -List.drop_one]
  simp only [decide_eq_true_eq] at hc
  simp [szL, hc]
 ·simp only [go_sem, qA, qB, qC, qD, qE, qF, qG, qH]
  repeat refine K ?_
  refine fz ?_; simp [FinS, nilL, nilV, oneOr, -List.drop_one]
  simp only [decide_eq_false_iff_not] at hc
  simp [szL, hc]
theorem eqPick_ok (x y : Pick) : CallOk Tryz.prog num 414 [.agg (pickC x), .agg (pickC y)] [] (.bool (decide (x = y))) := by
 refine EN m414 Tryz.func69 ?_
 unfold m414
 cases x
 cases y
 repeat' (first
  | (simp only [go_sem, qA, qB, qC, qD, qE, qF, qG, qH])
  | (refine qA1 (fun hc => ?_) (fun hc => ?_) <;> ((try simp only [Bool.not_eq_true', Bool.not_eq_false', ne_eq, Bool.not_eq_true, Bool.not_eq_false] at hc) <;> (try simp only [hc])))
  | (refine qBb (fun hc => ?_) (fun hc => ?_) <;> ((try simp only [Bool.not_eq_true', Bool.not_eq_false', ne_eq, Bool.not_eq_true, Bool.not_eq_false] at hc) <;> (try simp only [hc])))
  | (refine qB4 (fun hc => ?_) (fun hc => ?_) <;> ((try simp only [Bool.not_eq_true', Bool.not_eq_false', ne_eq, Bool.not_eq_true, Bool.not_eq_false] at hc) <;> (try simp only [hc])))
  | (refine ⟨by first | omega | (simp; done), ?_⟩)
  | fail)
 all_goals (refine fz ?_; simp [FinS, nilL, nilV, oneOr, -List.drop_one])
 all_goals (try (simp_all; done))
theorem eqPickS_ok (xs ys : List Pick) (hx : xs.length ≤ 2 ^ 47)  : CallOk Tryz.prog num 388 [.sl .bw 2 (pcks xs), .sl .bw 2 (pcks ys)] [] (.bool (decide (xs = ys))) := by
 refine EN m388 Tryz.func20 ?_
 unfold m388
 simp only [go_sem, qA, qB, qC, qD, qE, qF, qG, qH]
 repeat refine K ?_
 refine qA1 (fun hc => ?_) (fun hc => ?_)
 ·have hne : xs ≠ ys := fun he => by subst he; simp at hc
  simp only [go_sem, qA, qB, qC, qD, qE, qF, qG, qH]
  repeat refine K ?_
  refine fz ?_; simp [FinS, nilL, nilV, oneOr, -List.drop_one]
  exact hne
 ·have hl : xs.length = ys.length := by simp at hc; omega
  simp only [go_sem, qA, qB, qC, qD, qE, qF, qG, qH]
  repeat refine K ?_
  refine qA6 (ι := Nat) (fun i => .mk [(0, .sl .bw 2 (pcks xs)), (1, .sl .bw 2 (pcks ys)), (5, .int .i64 i)] [] 10) (fun i => i ≤ xs.length ∧ xs.take i = ys.take i) (fun i => xs.length - i) 0 (by simp) ?_ ?_
  ·refine Sub.shape [] id (by omega) ?_ ?_ ?_ ?_ <;> simp [qA2]
  ·rintro i ⟨hi, hp⟩
   simp only [go_sem, qA, qB, qC, qD, qE, qF, qG, qH]
   repeat refine K ?_
   refine qA1 (fun hc => ?_) (fun hc => ?_)
   ·simp only [decide_eq_true_eq] at hc
    have hil : i < xs.length := by omega
    have hjl : i < ys.length := by omega
    simp only [go_sem, qA, qB, qC, qD, qE, qF, qG, qH, pcks_getD xs i hil, pcks_getD ys i hjl]
    repeat refine K ?_
    refine DA [] (eqPick_ok (xs.getD i default) (ys.getD i default) ) ?_
    try simp only [go_sem, qA, qB, qC, qD, qE, qF, qG, qH]
    repeat refine K ?_
    by_cases he : xs.getD i default = ys.getD i default
    ·simp only [go_sem, qA, qB, qC, qD, qE, qF, qG, qH, he, qA4 (i := i) (by omega)]
     repeat refine K ?_
     refine qA5 (i + 1) (Sub.shape [] id (by omega) ?_ ?_ ?_ ?_) ?_ ?_
     any_goals (first | omega | (simp [qA2]; done))
     refine ⟨hil, ?_⟩
     rw [List.take_succ_eq_append_getElem hil, List.take_succ_eq_append_getElem hjl, hp]
     have he' : xs[i] = ys[i] := by simpa [List.getD_eq_getElem?_getD, hil, hjl] using he
     rw [he']
    ·simp only [go_sem, qA, qB, qC, qD, qE, qF, qG, qH, he]
     repeat refine K ?_
     refine fz ?_; simp [FinS, nilL, nilV, oneOr, -List.drop_one]
     intro h
     subst h
     exact he rfl
   ·simp only [decide_eq_false_iff_not] at hc
    have he : xs = ys := by
     have h1 : i = xs.length := by omega
     rw [h1, List.take_length, hl, List.take_length] at hp
     exact hp
    simp only [go_sem, qA, qB, qC, qD, qE, qF, qG, qH]
    repeat refine K ?_
    refine fz ?_; simp [FinS, nilL, nilV, oneOr, -List.drop_one]
    exact he
def wPick (_x : Pick) : Nat := 2
def markPickF (k : Int) (_x : Pick) : Pick := ⟨k, k + 1⟩
theorem markPickS_ok (l : List Pick) (k : Int) (h0 : 0 ≤ k) (h1 : k + tots wPick l < 2 ^ 59) (h2 : l.length < 2 ^ 59) : CallOk Tryz.prog num 389 [.ns 0 0 l.length, .int .i64 k] [(0, some (2, pcks l), some (2, pcks (mks wPick markPickF k l)))] (.int .i64 (k + tots wPick l)) := by
 refine EH m389 Tryz.func22 ?_
 unfold m389
 simp only [go_sem, qA, qB, qC, qD, qE, qF, qG, qH]
 repeat refine K ?_
 refine qA6 (ι := Nat) (fun i => .mk [(0, .ns 0 0 l.length), (1, .int .i64 (k + tots wPick (l.take i))), (5, .int .i64 i)] [(0, 2, pcks (mks wPick markPickF k (l.take i) ++ l.drop i))] 10) (fun i => i ≤ l.length) (fun i => l.length - i) 0 (by omega) ?_ ?_
 ·refine Sub.shape [] id (by omega) ?_ ?_ ?_ ?_ <;> simp [qA2]
  all_goals simp [mks, tots]
 ·intro i hi
  have hm : (mks wPick markPickF k (l.take i) ++ l.drop i).length = l.length := by simp; omega
  simp only [go_sem, qA, qB, qC, qD, qE, qF, qG, qH, hm]
  refine qA1 (fun hc => ?_) (fun hc => ?_)
  ·simp only [decide_eq_true_eq] at hc
   have hl' : i < l.length := by omega
   have ht := qBn wPick l default i hl'
   have htl := qAx wPick l (i + 1)
   have hw : wPick (l.getD i default) = 2 := rfl
   have gb : (pcks (mks wPick markPickF k (l.take i) ++ l.drop i)).getD i [] = [.int .i64 (l.getD i default).who, .int .i64 (l.getD i default).late] := by
    rw [pcks_getD _ i (hm ▸ hl'), mks_getD _ _ default l k i hl']
   have gw : ∀ r, ((pcks (mks wPick markPickF k (l.take i) ++ l.drop i)).set i r).getD i [] = r := fun r => qA8 _ _ _ _ (by rw [pcks_length, hm]; exact hl')
   have gi : ∀ a0 a1, (pcks ((mks wPick markPickF k (l.take i) ++ l.drop i).set i ⟨a0, a1⟩)).getD i [] = [.int .i64 a0, .int .i64 a1] := fun a0 a1 => by
    rw [pcks_getD _ i (by rw [List.length_set, hm]; exact hl'), qA8 _ _ _ _ (by rw [hm]; exact hl')]
   have q0 : IntKind.i64.wrap (k + tots wPick (l.take i) + 1) = k + tots wPick (l.take i) + 1 := qAc (by omega) (by omega)
   have q1 : IntKind.i64.wrap (k + tots wPick (l.take i) + 1 + 1) = k + (tots wPick (l.take (i + 1)) : Int) := by rw [qAc (by omega) (by omega)]; omega
   have hs := mks_set wPick markPickF default l k i hl'
   simp only [markPickF] at hs
   simp only [go_sem, qA, qB, qC, qD, qE, qF, qG, qH, gb, gw, hm, List.length_set, gi, q0, q1, hs, qA4 (i := i) (by omega)]
   repeat refine K ?_
   refine qA5 (i + 1) (Sub.shape [] id (by omega) ?_ ?_ ?_ ?_) ?_ ?_
   any_goals (first | omega | (simp [qA2]; done))
  ·simp only [decide_eq_false_iff_not] at hc
   have he : l.take i = l := List.take_of_length_le (by omega)
   have hd : l.drop i = [] := List.drop_eq_nil_of_le (by omega)
   simp only [go_sem, qA, qB, qC, qD, qE, qF, qG, qH, he, hd]
   repeat refine K ?_
   refine fz ?_; simp [FinS, nilL, nilV, oneOr, -List.drop_one]
end Go.Sep
