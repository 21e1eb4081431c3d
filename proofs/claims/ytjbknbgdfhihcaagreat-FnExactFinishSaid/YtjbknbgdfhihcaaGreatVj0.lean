/- Contracts of functions. -/
import Derived.Test.YtjbknbgdfhihcaaGreatVe0
import Derived.Test.YtjbknbgdfhihcaaGreatVf0
namespace Go.Sep
open Go.Proofs
set_option linter.unusedSimpArgs false
set_option linter.unusedVariables false
set_option maxRecDepth 100000
open Nat renaming reduceAdd → qA, reduceMul → qB, reduceEqDiff → qC, reduceBEq → qD
open Int renaming reduceToNat → qE, reduceEq → qF, reduceLT → qG, reduceLE → qH
open List renaming getD_eq_getElem?_getD → gD
def m27 : MFn := ⟨18, [.t 4], .seq (xr [xb 2 0, xo 4 (.mv (xi 0))]) (.seq (xr [xa 5 0 2, xl 6 5, xv 7 1, xc2 8 35 (.t 6) (.t 7), xv 1 8]) (.seq (.seq (xr [xv 9 1, xo 10 (.bin .lss (.t 9) (xi 0))]) (.cond 10 (.seq (xr [xo 4 (.mv (.c (.int .i64 (-1))))]) (.ret)) (.skip))) (.seq (xr [xa 11 1 2, xl 12 11, xv 13 1, xc2 14 51 (.t 12) (.t 13), xv 1 14]) (.seq (.seq (xr [xv 15 1, xo 16 (.bin .lss (.t 15) (xi 0))]) (.cond 16 (.seq (xr [xo 4 (.mv (.c (.int .i64 (-1))))]) (.ret)) (.skip))) (.seq (xr [xv 17 1, xv 4 17]) (.ret))))))⟩
def m28 : MFn := ⟨13, [.cell 2 2 true], .seq (xr [xb 1 0, xo 2 (.alloc [.nil, .nil])]) (.seq (xr [xo 3 (.alloc [.nil, .nil])]) (.seq (xr [xa 4 0 1, xl 5 4, xc1 6 5 (.t 5), xa 7 0 3, ⟨none, .store 1 (.t 7) (.t 6), none⟩]) (.seq (xr [xa 8 1 1, xl 9 8, xc1 10 52 (.t 9), xa 11 1 3, ⟨none, .store 1 (.t 11) (.t 10), none⟩]) (.seq (xr [xm 12 2 3, ⟨none, .store 2 (.t 2) (.t 12), none⟩]) (.ret)))))⟩
def m30 : MFn := ⟨17, [.t 4], .seq (xr [xb 2 0, xb 3 1, xF 4]) (.seq (.seq (xr [xa 5 0 2, xl 6 5, xa 7 0 3, xl 8 7, xc2 9 8 (.t 6) (.t 8), xo 10 (.un .«not» (.t 9))]) (.cond 10 (.seq (xr [xF 4]) (.ret)) (.skip))) (.seq (.seq (xr [xa 11 1 2, xl 12 11, xa 13 1 3, xl 14 13, xc2 15 53 (.t 12) (.t 14), xo 16 (.un .«not» (.t 15))]) (.cond 16 (.seq (xr [xF 4]) (.ret)) (.skip))) (.seq (xr [xT 4]) (.ret))))⟩
def m31 : MFn := ⟨14, [.t 4], .seq (xr [xb 2 0, xo 4 (.mv (xi 0))]) (.seq (xr [xa 5 0 2, xl 6 5, xv 7 1, xo 8 (.call 16 [true, false] [.t 6, .t 7]), xv 1 8]) (.seq (xr [xa 9 1 2, xl 10 9, xv 11 1, xo 12 (.call 54 [true, false] [.t 10, .t 11]), xv 1 12]) (.seq (xr [xv 13 1, xv 4 13]) (.ret))))⟩
def m51 : MFn := ⟨27, [.t 4], .seq (xr [xo 4 (.mv (xi 0))]) (.seq (xr [xv 6 1, xv 7 0, xe 8 7, xo 9 (.bin .sub (.t 6) (.t 8)), xv 1 9]) (.seq (.seq (xr [xv 10 1, xo 11 (.bin .lss (.t 10) (xi 0))]) (.cond 11 (.seq (xr [xo 4 (.mv (.c (.int .i64 (-1))))]) (.ret)) (.skip))) (.seq (.seq (xr [xo 5 (.mv (xi 0))]) (.blk 0 (.loop (.seq (.seq (xr [xv 12 5, xv 13 0, xe 14 13, xo 15 (.bin .lss (.t 12) (.t 14))]) (.cond 15 (.skip) (.exit 0))) (.seq (.blk 1 (.seq (xr [xv 18 0, xv 19 5, xo 20 (.iad 1 (.t 18) (.t 19)), xl 21 20, xv 22 1, xc2 23 73 (.t 21) (.t 22), xv 1 23]) (.seq (xr [xv 24 1, xo 25 (.bin .lss (.t 24) (xi 0))]) (.cond 25 (.seq (xr [xo 4 (.mv (.c (.int .i64 (-1))))]) (.ret)) (.skip))))) (xr [xv 16 5, xo 17 (.bin .add (.t 16) (xi 1)), xv 5 17])))))) (.seq (xr [xv 26 1, xv 4 26]) (.ret)))))⟩
def m52 : MFn := ⟨23, [.t 2], .seq (xr [xo 2 (.mv (.c (.nil)))]) (.seq (xr [xv 5 0, xe 6 5, xo 7 (.mkS [.nil] 24 (.t 6) (.t 6)), xv 3 7]) (.seq (.seq (xr [xo 4 (.mv (xi 0))]) (.blk 0 (.loop (.seq (.seq (xr [xv 8 4, xv 9 0, xe 10 9, xo 11 (.bin .lss (.t 8) (.t 10))]) (.cond 11 (.skip) (.exit 0))) (.seq (.blk 1 (xr [xv 14 3, xv 15 4, xv 16 0, xv 17 4, xo 18 (.iad 1 (.t 16) (.t 17)), xl 19 18, xc1 20 74 (.t 19), xo 21 (.iad 1 (.t 14) (.t 15)), ⟨none, .store 1 (.t 21) (.t 20), none⟩])) (xr [xv 12 4, xo 13 (.bin .add (.t 12) (xi 1)), xv 4 13])))))) (.seq (xr [xv 22 3, xv 2 22]) (.ret))))⟩
def m53 : MFn := ⟨27, [.t 4], .seq (xr [xF 4]) (.seq (.seq (xr [xv 6 0, xe 7 6, xv 8 1, xe 9 8, xo 10 (.bin .neq (.t 7) (.t 9))]) (.cond 10 (.seq (xr [xF 4]) (.ret)) (.skip))) (.seq (.seq (xr [xo 5 (.mv (xi 0))]) (.blk 0 (.loop (.seq (.seq (xr [xv 11 5, xv 12 0, xe 13 12, xo 14 (.bin .lss (.t 11) (.t 13))]) (.cond 14 (.skip) (.exit 0))) (.seq (.blk 1 (.seq (.dreg (.take 0 (xv 17 0) (.take 1 (xv 18 5) (.take 2 (xo 19 (.iad 1 (.t 17) (.t 18))) (.take 3 (xl 20 19) (.take 4 (xv 21 1) (.only 5 [] (xv 22 5) (.only 6 [4] (xo 23 (.iad 1 (.t 21) (.t 22))) (.only 7 [6, 4] (xl 24 23) (.only 8 [3, 7, 2, 6, 0, 1, 4] (xc2 25 75 (.t 20) (.t 24)) (.only 9 [8, 3, 7, 2, 6, 0, 1, 4] (xo 26 (.un .«not» (.t 25))) (.done)))))))))))) (.cond 26 (.seq (xr [xF 4]) (.ret)) (.skip)))) (xr [xv 15 5, xo 16 (.bin .add (.t 15) (xi 1)), xv 5 16])))))) (.seq (xr [xT 4]) (.ret))))⟩
def m54 : MFn := ⟨19, [.t 4], .seq (xr [xo 4 (.mv (xi 0))]) (.seq (.seq (xr [xo 5 (.mv (xi 0))]) (.blk 0 (.loop (.seq (.seq (xr [xv 6 5, xv 7 0, xe 8 7, xo 9 (.bin .lss (.t 6) (.t 8))]) (.cond 9 (.skip) (.exit 0))) (.seq (.blk 1 (xr [xv 12 0, xv 13 5, xo 14 (.iad 1 (.t 12) (.t 13)), xl 15 14, xv 16 1, xo 17 (.call 76 [true, false] [.t 15, .t 16]), xv 1 17])) (xr [xv 10 5, xo 11 (.bin .add (.t 10) (xi 1)), xv 5 11])))))) (.seq (xr [xv 18 1, xv 4 18]) (.ret)))⟩
def m73 : MFn := ⟨12, [.t 4], .seq (xr [xo 4 (.mv (xi 0))]) (.seq (xr [xv 5 1, xv 6 0, xe 7 6, xo 8 (.bin .sub (.t 5) (.t 7)), xv 1 8]) (.seq (.seq (xr [xv 9 1, xo 10 (.bin .lss (.t 9) (xi 0))]) (.cond 10 (.seq (xr [xo 4 (.mv (.c (.int .i64 (-1))))]) (.ret)) (.skip))) (.seq (xr [xv 11 1, xv 4 11]) (.ret))))⟩
def m74 : MFn := ⟨23, [.t 2], .seq (xr [xo 2 (.mv (.c (.nil)))]) (.seq (xr [xv 5 0, xe 6 5, xo 7 (.mkS [xz, xz, xz, xz, xz] 40 (.t 6) (.t 6)), xv 3 7]) (.seq (.seq (xr [xo 4 (.mv (xi 0))]) (.blk 0 (.loop (.seq (.seq (xr [xv 8 4, xv 9 0, xe 10 9, xo 11 (.bin .lss (.t 8) (.t 10))]) (.cond 11 (.skip) (.exit 0))) (.seq (.blk 1 (xr [xv 14 3, xv 15 4, xv 16 0, xv 17 4, xo 18 (.iad 5 (.t 16) (.t 17)), xm 19 5 18, xc1 20 89 (.t 19), xo 21 (.iad 5 (.t 14) (.t 15)), ⟨none, .store 5 (.t 21) (.t 20), none⟩])) (xr [xv 12 4, xo 13 (.bin .add (.t 12) (xi 1)), xv 4 13])))))) (.seq (xr [xv 22 3, xv 2 22]) (.ret))))⟩
def m75 : MFn := ⟨27, [.t 4], .seq (xr [xF 4]) (.seq (.seq (xr [xv 6 0, xe 7 6, xv 8 1, xe 9 8, xo 10 (.bin .neq (.t 7) (.t 9))]) (.cond 10 (.seq (xr [xF 4]) (.ret)) (.skip))) (.seq (.seq (xr [xo 5 (.mv (xi 0))]) (.blk 0 (.loop (.seq (.seq (xr [xv 11 5, xv 12 0, xe 13 12, xo 14 (.bin .lss (.t 11) (.t 13))]) (.cond 14 (.skip) (.exit 0))) (.seq (.blk 1 (.seq (.dreg (.take 0 (xv 17 0) (.take 1 (xv 18 5) (.take 2 (xo 19 (.iad 5 (.t 17) (.t 18))) (.take 3 (xm 20 5 19) (.take 4 (xv 21 1) (.only 5 [] (xv 22 5) (.only 6 [4] (xo 23 (.iad 5 (.t 21) (.t 22))) (.only 7 [6, 4] (xm 24 5 23) (.only 8 [3, 7, 2, 6, 0, 1, 4] (xc2 25 90 (.t 20) (.t 24)) (.only 9 [8, 3, 7, 2, 6, 0, 1, 4] (xo 26 (.un .«not» (.t 25))) (.done)))))))))))) (.cond 26 (.seq (xr [xF 4]) (.ret)) (.skip)))) (xr [xv 15 5, xo 16 (.bin .add (.t 15) (xi 1)), xv 5 16])))))) (.seq (xr [xT 4]) (.ret))))⟩
def m76 : MFn := ⟨48, [.t 4], .seq (xr [xo 4 (.mv (xi 0))]) (.seq (.seq (xr [xo 5 (.mv (xi 0))]) (.blk 0 (.loop (.seq (.seq (xr [xv 6 5, xv 7 0, xe 8 7, xo 9 (.bin .lss (.t 6) (.t 8))]) (.cond 9 (.skip) (.exit 0))) (.seq (.blk 1 (.seq (xr [xv 12 0, xv 13 5, xv 14 1, xo 15 (.iad 5 (.t 12) (.t 13)), xa 16 0 15, ⟨none, .store 1 (.t 16) (.t 14), none⟩]) (.seq (xr [xv 17 1, xo 18 (.bin .add (.t 17) (xi 1)), xv 1 18]) (.seq (xr [xv 19 0, xv 20 5, xv 21 1, xo 22 (.iad 5 (.t 19) (.t 20)), xa 23 1 22, ⟨none, .store 1 (.t 23) (.t 21), none⟩]) (.seq (xr [xv 24 1, xo 25 (.bin .add (.t 24) (xi 1)), xv 1 25]) (.seq (xr [xv 26 0, xv 27 5, xv 28 1, xo 29 (.iad 5 (.t 26) (.t 27)), xa 30 2 29, ⟨none, .store 1 (.t 30) (.t 28), none⟩]) (.seq (xr [xv 31 1, xo 32 (.bin .add (.t 31) (xi 1)), xv 1 32]) (.seq (xr [xv 33 0, xv 34 5, xv 35 1, xo 36 (.iad 5 (.t 33) (.t 34)), xa 37 3 36, ⟨none, .store 1 (.t 37) (.t 35), none⟩]) (.seq (xr [xv 38 1, xo 39 (.bin .add (.t 38) (xi 1)), xv 1 39]) (.seq (xr [xv 40 0, xv 41 5, xv 42 1, xo 43 (.iad 5 (.t 40) (.t 41)), xa 44 4 43, ⟨none, .store 1 (.t 44) (.t 42), none⟩]) (xr [xv 45 1, xo 46 (.bin .add (.t 45) (xi 1)), xv 1 46]))))))))))) (xr [xv 10 5, xo 11 (.bin .add (.t 10) (xi 1)), xv 5 11])))))) (.seq (xr [xv 47 1, xv 4 47]) (.ret)))⟩
def m89 : MFn := ⟨20, [.cell 2 5 true], .seq (xr [xb 1 0, xo 2 (.alloc [xz, xz, xz, xz, xz])]) (.seq (xr [xo 3 (.alloc [xz, xz, xz, xz, xz])]) (.seq (xr [xa 4 0 1, xl 5 4, xa 6 0 3, ⟨none, .store 1 (.t 6) (.t 5), none⟩]) (.seq (xr [xa 7 1 1, xl 8 7, xa 9 1 3, ⟨none, .store 1 (.t 9) (.t 8), none⟩]) (.seq (xr [xa 10 2 1, xl 11 10, xa 12 2 3, ⟨none, .store 1 (.t 12) (.t 11), none⟩]) (.seq (xr [xa 13 3 1, xl 14 13, xa 15 3 3, ⟨none, .store 1 (.t 15) (.t 14), none⟩]) (.seq (xr [xa 16 4 1, xl 17 16, xa 18 4 3, ⟨none, .store 1 (.t 18) (.t 17), none⟩]) (.seq (xr [xm 19 5 3, ⟨none, .store 5 (.t 2) (.t 19), none⟩]) (.ret))))))))⟩
def m90 : MFn := ⟨30, [.t 4], .seq (xr [xb 2 0, xb 3 1, xF 4]) (.seq (.seq (xr [xa 5 0 2, xl 6 5, xa 7 0 3, xl 8 7, xo 9 (.bin .neq (.t 6) (.t 8))]) (.cond 9 (.seq (xr [xF 4]) (.ret)) (.skip))) (.seq (.seq (xr [xa 10 1 2, xl 11 10, xa 12 1 3, xl 13 12, xo 14 (.bin .neq (.t 11) (.t 13))]) (.cond 14 (.seq (xr [xF 4]) (.ret)) (.skip))) (.seq (.seq (xr [xa 15 2 2, xl 16 15, xa 17 2 3, xl 18 17, xo 19 (.bin .neq (.t 16) (.t 18))]) (.cond 19 (.seq (xr [xF 4]) (.ret)) (.skip))) (.seq (.seq (xr [xa 20 3 2, xl 21 20, xa 22 3 3, xl 23 22, xo 24 (.bin .neq (.t 21) (.t 23))]) (.cond 24 (.seq (xr [xF 4]) (.ret)) (.skip))) (.seq (.seq (xr [xa 25 4 2, xl 26 25, xa 27 4 3, xl 28 27, xo 29 (.bin .neq (.t 26) (.t 28))]) (.cond 29 (.seq (xr [xF 4]) (.ret)) (.skip))) (.seq (xr [xT 4]) (.ret)))))))⟩
theorem szInsS_ok (xs : List Ins) (n : Int) (hx : xs.length < 2 ^ 63) (h0 : 0 ≤ n) (h1 : n ≤ 2 ^ 62) : CallOk Tryz.prog num 73 [.sl .bw 5 (inss xs), .int .i64 n] [] (.int .i64 (szL xs.length n)) := by
 refine EN m73 Tryz.func154 ?_
 unfold m73
 have hw : IntKind.i64.wrap (n - xs.length) = n - xs.length := qAl (by omega) (by omega)
 simp only [go_sem, qA, qB, qC, qD, qE, qF, qG, qH, hw]
 repeat refine K ?_
 refine qA1 (fun hc => ?_) (fun hc => ?_)
 ·simp only [go_sem, qA, qB, qC, qD, qE, qF, qG, qH]
  repeat refine K ?_
  refine fz ?_; simp [FinS, nilL, nilV, oneOr, -List.drop_one]
  simp only [decide_eq_true_eq] at hc
  simp [szL, hc]
 ·simp only [go_sem, qA, qB, qC, qD, qE, qF, qG, qH]
  repeat refine K ?_
  refine fz ?_; simp [FinS, nilL, nilV, oneOr, -List.drop_one]
  simp only [decide_eq_false_iff_not] at hc
  simp [szL, hc]
def szRows : List (List Ins) → Int → Int
 | [], n => n
 | b :: l, n => if szL b.length n < 0 then -1 else szRows l (szL b.length n)
def szBods (l : List (List Ins)) (n : Int) : Int := if szL l.length n < 0 then -1 else szRows l (szL l.length n)
theorem szL_nonneg {k : Nat} {n : Int} (h : ¬ szL k n < 0) : szL k n = n - k := by
 unfold szL at h ⊢
 split
 ·rename_i h4; rw [if_pos h4] at h; simp at h
 ·rfl
theorem szInsSS_ok (l : List (List Ins)) (n : Int) (hl : l.length < 2 ^ 63) (hb : ∀ b ∈ l, b.length < 2 ^ 63) (h0 : 0 ≤ n) (h1 : n ≤ 2 ^ 61) : CallOk Tryz.prog num 51 [.sl .bw 1 (bodies .bw l), .int .i64 n] [] (.int .i64 (szBods l n)) := by
 refine EN m51 Tryz.func79 ?_
 unfold m51
 have hw : IntKind.i64.wrap (n - l.length) = n - l.length := qAl (by omega) (by omega)
 simp only [go_sem, qA, qB, qC, qD, qE, qF, qG, qH, hw]
 repeat refine K ?_
 refine qA1 (fun hc => ?_) (fun hc => ?_)
 ·simp only [go_sem, qA, qB, qC, qD, qE, qF, qG, qH]
  repeat refine K ?_
  refine fz ?_; simp [FinS, nilL, nilV, oneOr, -List.drop_one]
  simp only [decide_eq_true_eq] at hc
  simp [szBods, szL, hc]
 ·simp only [decide_eq_false_iff_not] at hc
  simp only [go_sem, qA, qB, qC, qD, qE, qF, qG, qH]
  repeat refine K ?_
  refine qA6 (ι := Nat × Int) (fun i => .mk [(0, .sl .bw 1 (bodies .bw l)), (1, .int .i64 i.2), (5, .int .i64 i.1)] [] 10) (fun i => i.1 ≤ l.length ∧ 0 ≤ i.2 ∧ i.2 ≤ 2 ^ 61 ∧ szRows (l.drop i.1) i.2 = szRows l (n - l.length)) (fun i => l.length - i.1) (0, n - l.length) ⟨by simp, by simp; omega, by simp; omega, rfl⟩ ?_ ?_
  ·refine Sub.shape [] id (by omega) ?_ ?_ ?_ ?_ <;> simp [qA3]
  ·rintro ⟨i, m⟩ ⟨hi, hm0, hm1, hs⟩
   simp only at hi hm0 hm1 hs ⊢
   simp only [go_sem, qA, qB, qC, qD, qE, qF, qG, qH]
   refine qA1 (fun hc2 => ?_) (fun hc2 => ?_)
   ·simp only [decide_eq_true_eq] at hc2
    have hl' : i < l.length := by omega
    have hbl := hb _ (qAc l i [] hl')
    have hd : l.drop i = l.getD i [] :: l.drop (i + 1) := by rw [List.drop_eq_getElem_cons hl']; simp [List.getD_eq_getElem?_getD, hl']
    rw [hd] at hs
    simp only [szRows] at hs
    simp only [go_sem, qA, qB, qC, qD, qE, qF, qG, qH, qBp .bw l i hl']
    repeat refine K ?_
    refine CA [] (szInsS_ok (l.getD i []) m hbl hm0 (by omega)) ?_
    try simp only [go_sem, qA, qB, qC, qD, qE, qF, qG, qH]
    repeat refine K ?_
    have hle := szL_le (k := (l.getD i []).length) hm0
    refine qA1 (fun hc3 => ?_) (fun hc3 => ?_)
    ·simp only [go_sem, qA, qB, qC, qD, qE, qF, qG, qH]
     repeat refine K ?_
     refine fz ?_; simp [FinS, nilL, nilV, oneOr, -List.drop_one]
     simp only [decide_eq_true_eq] at hc3
     rw [if_pos hc3] at hs
     have e : szL l.length n = n - l.length := by unfold szL; rw [if_neg hc]
     simp only [szBods, e, if_neg hc]
     exact hs.symm
    ·simp only [decide_eq_false_iff_not] at hc3
     rw [if_neg hc3] at hs
     simp only [go_sem, qA, qB, qC, qD, qE, qF, qG, qH, qA4 (i := i) (by omega)]
     repeat refine K ?_
     refine qA5 (i + 1, szL (l.getD i []).length m) (Sub.shape [] id (by omega) ?_ ?_ ?_ ?_) ⟨hl', by simp only; omega, by simp only; omega, hs⟩ (by simp only; omega)
     all_goals simp [qA3]
   ·simp only [decide_eq_false_iff_not] at hc2
    have hd : l.drop i = [] := List.drop_eq_nil_of_le (by omega)
    rw [hd] at hs
    simp only [szRows] at hs
    simp only [go_sem, qA, qB, qC, qD, qE, qF, qG, qH]
    repeat refine K ?_
    refine fz ?_; simp [FinS, nilL, nilV, oneOr, -List.drop_one]
    have e : szL l.length n = n - l.length := by unfold szL; rw [if_neg hc]
    simp only [szBods, e, if_neg hc]
    exact hs.symm
def szProg (p : Prog) (n : Int) : Int := if szL p.caps.length n < 0 then -1 else if szBods p.bods (szL p.caps.length n) < 0 then -1 else szBods p.bods (szL p.caps.length n)
theorem szProg_ok (p : Prog) (n : Int) (hc : p.caps.length < 2 ^ 63) (hl : p.bods.length < 2 ^ 63) (hb : ∀ b ∈ p.bods, b.length < 2 ^ 63) (h0 : 0 ≤ n) (h1 : n ≤ 2 ^ 61) : CallOk Tryz.prog num 27 [.agg (progC .bw p), .int .i64 n] [] (.int .i64 (szProg p n)) := by
 refine EN m27 Tryz.func26 ?_
 unfold m27
 simp only [go_sem, qA, qB, qC, qD, qE, qF, qG, qH]
 repeat refine K ?_
 refine CA [] (szIntS_ok p.caps n hc h0 (by omega)) ?_
 try simp only [go_sem, qA, qB, qC, qD, qE, qF, qG, qH]
 repeat refine K ?_
 have hle := szL_le (k := p.caps.length) h0
 refine qA1 (fun hk => ?_) (fun hk => ?_)
 ·simp only [decide_eq_true_eq] at hk
  simp only [go_sem, qA, qB, qC, qD, qE, qF, qG, qH]
  repeat refine K ?_
  refine fz ?_; simp [FinS, nilL, nilV, oneOr, -List.drop_one]
  simp [szProg, hk]
 ·simp only [decide_eq_false_iff_not] at hk
  simp only [go_sem, qA, qB, qC, qD, qE, qF, qG, qH]
  repeat refine K ?_
  refine CA [] (szInsSS_ok p.bods (szL p.caps.length n) hl hb (by omega) (by omega)) ?_
  try simp only [go_sem, qA, qB, qC, qD, qE, qF, qG, qH]
  repeat refine K ?_
  refine qA1 (fun hk2 => ?_) (fun hk2 => ?_)
  ·simp only [decide_eq_true_eq] at hk2
   simp only [go_sem, qA, qB, qC, qD, qE, qF, qG, qH]
   repeat refine K ?_
   refine fz ?_; simp [FinS, nilL, nilV, oneOr, -List.drop_one]
   simp [szProg, hk, hk2]
  ·simp only [decide_eq_false_iff_not] at hk2
   simp only [go_sem, qA, qB, qC, qD, qE, qF, qG, qH]
   repeat refine K ?_
   refine fz ?_; simp [FinS, nilL, nilV, oneOr, -List.drop_one]
   simp [szProg, hk, hk2]
theorem toIns_ok (x : Ins) : CallOk Tryz.prog num 89 [.agg (insC x)] [] (.agg (insC x)) := by
 refine EN m89 Tryz.func217 ?_
 unfold m89
 simp only [go_sem, qA, qB, qC, qD, qE, qF, qG, qH]
 repeat refine K ?_
 refine ⟨_, Sub.refl _, qBc ?_⟩; simp [-List.drop_one]
theorem fill_set {α : Type} (l : List α) (d e : α) (i : Nat) (h : i < l.length) : (l.take i ++ List.replicate (l.length - i) e).set i (l.getD i d) = l.take (i + 1) ++ List.replicate (l.length - (i + 1)) e := by
 have h1 : l.length - i = (l.length - (i + 1)) + 1 := by omega
 rw [List.set_append_right _ _ (by simp; omega), List.length_take, Nat.min_eq_left (by omega), Nat.sub_self, h1, List.replicate_succ, List.set_cons_zero, List.take_succ_eq_append_getElem h, List.append_assoc]
 congr 1
 simp [List.getD_eq_getElem?_getD, h]
theorem qCn {α : Type} (l : List α) (e : α) (i : Nat) (h : i ≤ l.length) : (l.take i ++ List.replicate (l.length - i) e).length = l.length := by simp; omega
theorem toInsS_ok (l : List Ins) (hl : 40 * l.length ≤ 2 ^ 47) : CallOk Tryz.prog num 74 [.sl .bw 5 (inss l)] [] (.sl .own 5 (inss l)) := by
 refine EN m74 Tryz.func159 ?_
 unfold m74
 simp only [go_sem, qA, qB, qC, qD, qE, qF, qG, qH]
 repeat refine K ?_
 refine qA6 (ι := Nat) (fun i => .mk [(0, .sl .bw 5 (inss l)), (3, .ns 10 0 l.length), (4, .int .i64 i)] [(10, 5, inss (l.take i ++ List.replicate (l.length - i) ⟨0, 0, 0, 0, 0⟩))] 11) (fun i => i ≤ l.length) (fun i => l.length - i) 0 (by simp) ?_ ?_
 ·refine Sub.shape [] id (by omega) ?_ ?_ ?_ ?_ <;> simp [qA3]
  left
  exact inss_rep _ _ _ _ _ _
 ·intro i hi
  simp only [go_sem, qA, qB, qC, qD, qE, qF, qG, qH]
  refine qA1 (fun hc => ?_) (fun hc => ?_)
  ·simp only [decide_eq_true_eq] at hc
   have hl' : i < l.length := by omega
   have hm := qCn l (⟨0, 0, 0, 0, 0⟩ : Ins) i hi
   simp only [go_sem, qA, qB, qC, qD, qE, qF, qG, qH, qBo l i hl', hm]
   repeat refine K ?_
   refine CA [] (toIns_ok (l.getD i default)) ?_
   try simp only [go_sem, qA, qB, qC, qD, qE, qF, qG, qH]
   repeat refine K ?_
   have hs := fill_set l default (⟨0, 0, 0, 0, 0⟩ : Ins) i hl'
   have hs' : (l.take i ++ List.replicate (l.length - i) (⟨0, 0, 0, 0, 0⟩ : Ins)).set i ⟨(l.getD i default).op, (l.getD i default).r, (l.getD i default).a, (l.getD i default).b, (l.getD i default).n⟩ = l.take (i + 1) ++ List.replicate (l.length - (i + 1)) ⟨0, 0, 0, 0, 0⟩ := hs
   try simp only [go_sem, qA, qB, qC, qD, qE, qF, qG, qH, qBo _ i (hm ▸ hl'), hm, hs', qA4 (i := i) (by omega)]
   repeat refine K ?_
   refine qA5 (i + 1) (Sub.shape [] id (by omega) ?_ ?_ ?_ ?_) ?_ ?_
   any_goals (first | omega | (simp [qA3]; done))
  ·simp only [decide_eq_false_iff_not] at hc
   have : i = l.length := by omega
   subst this
   simp only [go_sem, qA, qB, qC, qD, qE, qF, qG, qH]
   repeat refine K ?_
   refine fz ?_; simp [FinS, nilL, nilV, oneOr, -List.drop_one]
theorem nil_rows : ∀ (n : Nat), nilRs (List.replicate n [AV.nil]) (bodies .own (List.replicate n []))
 | 0 => by simp [bodies]
 | n + 1 => by
  have := nil_rows n
  simp only [List.replicate_succ, bodies, List.map_cons] at this ⊢
  exact (nilRs_cons _ _ _ _).2 ⟨by simp [inss], this⟩
theorem toInsSS_ok (l : List (List Ins)) (hl : 24 * l.length ≤ 2 ^ 47) (hb : ∀ b ∈ l, 40 * b.length ≤ 2 ^ 47) : CallOk Tryz.prog num 52 [.sl .bw 1 (bodies .bw l)] [] (.sl .own 1 (bodies .own l)) := by
 refine EN m52 Tryz.func83 ?_
 unfold m52
 simp only [go_sem, qA, qB, qC, qD, qE, qF, qG, qH]
 repeat refine K ?_
 refine qA6 (ι := Nat) (fun i => .mk [(0, .sl .bw 1 (bodies .bw l)), (3, .ns 10 0 l.length), (4, .int .i64 i)] [(10, 1, bodies .own (l.take i ++ List.replicate (l.length - i) []))] 11) (fun i => i ≤ l.length) (fun i => l.length - i) 0 (by simp) ?_ ?_
 ·refine Sub.shape [] id (by omega) ?_ ?_ ?_ ?_ <;> simp [qA3]
  right
  exact nil_rows _
 ·intro i hi
  simp only [go_sem, qA, qB, qC, qD, qE, qF, qG, qH]
  refine qA1 (fun hc => ?_) (fun hc => ?_)
  ·simp only [decide_eq_true_eq] at hc
   have hl' : i < l.length := by omega
   have hm := qCn l ([] : List Ins) i hi
   simp only [go_sem, qA, qB, qC, qD, qE, qF, qG, qH, qBp .bw l i hl', hm]
   repeat refine K ?_
   refine CA [] (toInsS_ok (l.getD i []) (hb _ (qAc l i [] hl'))) ?_
   try simp only [go_sem, qA, qB, qC, qD, qE, qF, qG, qH]
   repeat refine K ?_
   have hs := fill_set l [] ([] : List Ins) i hl'
   try simp only [go_sem, qA, qB, qC, qD, qE, qF, qG, qH, qBp .own _ i (hm ▸ hl'), hm, qA4 (i := i) (by omega)]
   repeat refine K ?_
   refine qA5 (i + 1) ?_ hl' (by omega)
   refine Sub.trans (Sub.foldAt 10 0 11 rfl (by simp [-gD] <;> omega) rfl (by decide) (by decide) rfl (by simp <;> omega)) ?_
   simp only [fS, qA, qC, bodies_set, hs]
   refine Sub.shape [] id (by omega) ?_ ?_ ?_ ?_ <;> simp [qA3]
  ·simp only [decide_eq_false_iff_not] at hc
   have : i = l.length := by omega
   subst this
   simp only [go_sem, qA, qB, qC, qD, qE, qF, qG, qH]
   repeat refine K ?_
   refine fz ?_; simp [FinS, nilL, nilV, oneOr, -List.drop_one]
theorem toProg_ok (p : Prog) (hc : 8 * p.caps.length ≤ 2 ^ 47) (hl : 24 * p.bods.length ≤ 2 ^ 47) (hb : ∀ b ∈ p.bods, 40 * b.length ≤ 2 ^ 47) : CallOk Tryz.prog num 28 [.agg (progC .bw p)] [] (.agg (progC .own p)) := by
 refine EN m28 Tryz.func28 ?_
 unfold m28
 simp only [go_sem, qA, qB, qC, qD, qE, qF, qG, qH]
 repeat refine K ?_
 refine CA [] (toIntS_ok p.caps hc) ?_
 try simp only [go_sem, qA, qB, qC, qD, qE, qF, qG, qH]
 repeat refine K ?_
 refine CA [] (toInsSS_ok p.bods hl hb) ?_
 try simp only [go_sem, qA, qB, qC, qD, qE, qF, qG, qH]
 repeat refine K ?_
 refine ⟨_, Sub.refl _, qBc ?_⟩; simp [-List.drop_one]
theorem eqIns_ok (x y : Ins) : CallOk Tryz.prog num 90 [.agg (insC x), .agg (insC y)] [] (.bool (decide (x = y))) := by
 refine EN m90 Tryz.func226 ?_
 unfold m90
 obtain ⟨a, b, c, d, e⟩ := x
 obtain ⟨a', b', c', d', e'⟩ := y
 repeat' (first
  | (simp only [go_sem, qA, qB, qC, qD, qE, qF, qG, qH])
  | (refine qA1 (fun hc => ?_) (fun hc => ?_) <;> ((try simp only [Bool.not_eq_true', Bool.not_eq_false', ne_eq, Bool.not_eq_true, Bool.not_eq_false] at hc) <;> (try simp only [hc])))
  | (refine qB7 (fun hc => ?_) (fun hc => ?_) <;> ((try simp only [Bool.not_eq_true', Bool.not_eq_false', ne_eq, Bool.not_eq_true, Bool.not_eq_false] at hc) <;> (try simp only [hc])))
  | (refine qAz (fun hc => ?_) (fun hc => ?_) <;> ((try simp only [Bool.not_eq_true', Bool.not_eq_false', ne_eq, Bool.not_eq_true, Bool.not_eq_false] at hc) <;> (try simp only [hc])))
  | (refine ⟨by first | omega | (simp; done), ?_⟩)
  | fail)
 all_goals (refine fz ?_; simp [FinS, nilL, nilV, oneOr, -List.drop_one])
 all_goals (try (simp_all; done))
theorem eqInsS_ok (xs ys : List Ins) (hx : xs.length ≤ 2 ^ 47) : CallOk Tryz.prog num 75 [.sl .bw 5 (inss xs), .sl .bw 5 (inss ys)] [] (.bool (decide (xs = ys))) := by
 refine EN m75 Tryz.func164 ?_
 unfold m75
 simp only [go_sem, qA, qB, qC, qD, qE, qF, qG, qH]
 repeat refine K ?_
 refine qA1 (fun hc => ?_) (fun hc => ?_)
 ·have hne : xs ≠ ys := fun he => by subst he; simp at hc
  simp only [go_sem, qA, qB, qC, qD, qE, qF, qG, qH]
  repeat refine K ?_
  refine fz ?_; simp [FinS, nilL, nilV, oneOr, -List.drop_one]
  exact hne
 ·have hl : xs.length = ys.length := by simp at hc; omega
  simp only [go_sem, qA, qB, qC, qD, qE, qF, qG, qH]
  repeat refine K ?_
  refine qA6 (ι := Nat) (fun i => .mk [(0, .sl .bw 5 (inss xs)), (1, .sl .bw 5 (inss ys)), (5, .int .i64 i)] [] 10) (fun i => i ≤ xs.length ∧ xs.take i = ys.take i) (fun i => xs.length - i) 0 (by simp) ?_ ?_
  ·refine Sub.shape [] id (by omega) ?_ ?_ ?_ ?_ <;> simp [qA3]
  ·rintro i ⟨hi, hp⟩
   simp only [go_sem, qA, qB, qC, qD, qE, qF, qG, qH]
   repeat refine K ?_
   refine qA1 (fun hc => ?_) (fun hc => ?_)
   ·simp only [decide_eq_true_eq] at hc
    have hil : i < xs.length := by omega
    have hjl : i < ys.length := by omega
    simp only [go_sem, qA, qB, qC, qD, qE, qF, qG, qH, qBo xs i hil, qBo ys i hjl]
    repeat refine K ?_
    refine DA [] (eqIns_ok (xs.getD i default) (ys.getD i default)) ?_
    try simp only [go_sem, qA, qB, qC, qD, qE, qF, qG, qH]
    repeat refine K ?_
    by_cases he : xs.getD i default = ys.getD i default
    ·simp only [go_sem, qA, qB, qC, qD, qE, qF, qG, qH, he, qA4 (i := i) (by omega)]
     repeat refine K ?_
     refine qA5 (i + 1) (Sub.shape [] id (by omega) ?_ ?_ ?_ ?_) ?_ ?_
     any_goals (first | omega | (simp [qA3]; done))
     refine ⟨hil, ?_⟩
     rw [List.take_succ_eq_append_getElem hil, List.take_succ_eq_append_getElem hjl, hp]
     have he' : xs[i] = ys[i] := by simpa [List.getD_eq_getElem?_getD, hil, hjl] using he
     rw [he']
    ·simp only [go_sem, qA, qB, qC, qD, qE, qF, qG, qH, he]
     repeat refine K ?_
     refine fz ?_; simp [FinS, nilL, nilV, oneOr, -List.drop_one]
     intro h
     subst h
     exact he rfl
   ·simp only [decide_eq_false_iff_not] at hc
    have he : xs = ys := by
     have h1 : i = xs.length := by omega
     rw [h1, List.take_length, hl, List.take_length] at hp
     exact hp
    simp only [go_sem, qA, qB, qC, qD, qE, qF, qG, qH]
    repeat refine K ?_
    refine fz ?_; simp [FinS, nilL, nilV, oneOr, -List.drop_one]
    exact he
theorem eqInsSS_ok (xs ys : List (List Ins)) (hx : xs.length ≤ 2 ^ 47) (hb : ∀ b ∈ xs, b.length ≤ 2 ^ 47) : CallOk Tryz.prog num 53 [.sl .bw 1 (bodies .bw xs), .sl .bw 1 (bodies .bw ys)] [] (.bool (decide (xs = ys))) := by
 refine EN m53 Tryz.func86 ?_
 unfold m53
 simp only [go_sem, qA, qB, qC, qD, qE, qF, qG, qH]
 repeat refine K ?_
 refine qA1 (fun hc => ?_) (fun hc => ?_)
 ·have hne : xs ≠ ys := fun he => by subst he; simp at hc
  simp only [go_sem, qA, qB, qC, qD, qE, qF, qG, qH]
  repeat refine K ?_
  refine fz ?_; simp [FinS, nilL, nilV, oneOr, -List.drop_one]
  exact hne
 ·have hl : xs.length = ys.length := by simp at hc; omega
  simp only [go_sem, qA, qB, qC, qD, qE, qF, qG, qH]
  repeat refine K ?_
  refine qA6 (ι := Nat) (fun i => .mk [(0, .sl .bw 1 (bodies .bw xs)), (1, .sl .bw 1 (bodies .bw ys)), (5, .int .i64 i)] [] 10) (fun i => i ≤ xs.length ∧ xs.take i = ys.take i) (fun i => xs.length - i) 0 (by simp) ?_ ?_
  ·refine Sub.shape [] id (by omega) ?_ ?_ ?_ ?_ <;> simp [qA3]
  ·rintro i ⟨hi, hp⟩
   simp only [go_sem, qA, qB, qC, qD, qE, qF, qG, qH]
   repeat refine K ?_
   refine qA1 (fun hc => ?_) (fun hc => ?_)
   ·simp only [decide_eq_true_eq] at hc
    have hil : i < xs.length := by omega
    have hjl : i < ys.length := by omega
    simp only [go_sem, qA, qB, qC, qD, qE, qF, qG, qH, qBp .bw xs i hil, qBp .bw ys i hjl]
    repeat refine K ?_
    refine DA [] (eqInsS_ok (xs.getD i []) (ys.getD i []) (hb _ (qAc xs i [] hil))) ?_
    try simp only [go_sem, qA, qB, qC, qD, qE, qF, qG, qH]
    repeat refine K ?_
    by_cases he : xs.getD i [] = ys.getD i []
    ·simp only [go_sem, qA, qB, qC, qD, qE, qF, qG, qH, he, qA4 (i := i) (by omega)]
     repeat refine K ?_
     refine qA5 (i + 1) (Sub.shape [] id (by omega) ?_ ?_ ?_ ?_) ?_ ?_
     any_goals (first | omega | (simp [qA3]; done))
     refine ⟨hil, ?_⟩
     rw [List.take_succ_eq_append_getElem hil, List.take_succ_eq_append_getElem hjl, hp]
     have he' : xs[i] = ys[i] := by simpa [List.getD_eq_getElem?_getD, hil, hjl] using he
     rw [he']
    ·simp only [go_sem, qA, qB, qC, qD, qE, qF, qG, qH, he]
     repeat refine K ?_
     refine fz ?_; simp [FinS, nilL, nilV, oneOr, -List.drop_one]
     intro h
     subst h
     exact he rfl
   ·simp only [decide_eq_false_iff_not] at hc
    have he : xs = ys := by
     have h1 : i = xs.length := by omega
     rw [h1, List.take_length, hl, List.take_length] at hp
     exact hp
    simp only [go_sem, qA, qB, qC, qD, qE, qF, qG, qH]
    repeat refine K ?_
    refine fz ?_; simp [FinS, nilL, nilV, oneOr, -List.drop_one]
    exact he
theorem eqProg_ok (p q : Prog) (h1 : p.caps.length ≤ 2 ^ 47) (h2 : p.bods.length ≤ 2 ^ 47) (h3 : ∀ b ∈ p.bods, b.length ≤ 2 ^ 47) : CallOk Tryz.prog num 30 [.agg (progC .bw p), .agg (progC .bw q)] [] (.bool (decide (p.caps = q.caps) && decide (p.bods = q.bods))) := by
 refine EN m30 Tryz.func30 ?_
 unfold m30
 simp only [go_sem, qA, qB, qC, qD, qE, qF, qG, qH]
 repeat refine K ?_
 refine CA [] (eqIntS_ok p.caps q.caps h1) ?_
 try simp only [go_sem, qA, qB, qC, qD, qE, qF, qG, qH]
 repeat refine K ?_
 refine qA1 (fun hc => ?_) (fun hc => ?_)
 ·simp only [go_sem, qA, qB, qC, qD, qE, qF, qG, qH]
  repeat refine K ?_
  refine fz ?_; simp [FinS, nilL, nilV, oneOr, -List.drop_one]
  simp_all
 ·simp only [go_sem, qA, qB, qC, qD, qE, qF, qG, qH]
  repeat refine K ?_
  refine CA [] (eqInsSS_ok p.bods q.bods h2 h3) ?_
  try simp only [go_sem, qA, qB, qC, qD, qE, qF, qG, qH]
  repeat refine K ?_
  refine qA1 (fun hc2 => ?_) (fun hc2 => ?_)
  ·simp only [go_sem, qA, qB, qC, qD, qE, qF, qG, qH]
   repeat refine K ?_
   refine fz ?_; simp [FinS, nilL, nilV, oneOr, -List.drop_one]
   simp_all
  ·simp only [go_sem, qA, qB, qC, qD, qE, qF, qG, qH]
   repeat refine K ?_
   refine fz ?_; simp [FinS, nilL, nilV, oneOr, -List.drop_one]
   simp_all
def insMark (k : Int) : Ins := ⟨k, k + 1, k + 1 + 1, k + 1 + 1 + 1, k + 1 + 1 + 1 + 1⟩
def insMarks (k : Int) (n : Nat) : List Ins := (List.range n).map fun (i : Nat) => insMark (k + 5 * i)
@[simp] theorem insMarks_length (k : Int) (n : Nat) : (insMarks k n).length = n := by simp [insMarks]
@[simp] theorem insMarks_take (k : Int) (n : Nat) : (insMarks k n).take n = insMarks k n := List.take_of_length_le (by simp)
theorem insMarks_set (xs : List Ins) (k : Int) (i : Nat) (h : i < xs.length) : (insMarks k i ++ xs.drop i).set i (insMark (k + 5 * i)) = insMarks k (i + 1) ++ xs.drop (i + 1) := by
 rw [List.set_append_right _ _ (by simp), insMarks_length, Nat.sub_self, List.drop_eq_getElem_cons h, List.set_cons_zero]
 simp [insMarks, List.range_succ]
set_option maxHeartbeats 1000000 in
theorem markInsS_ok (xs : List Ins) (k : Int) (h0 : 0 ≤ k) (h1 : k + 5 * xs.length < 2 ^ 60) : CallOk Tryz.prog num 76 [.ns 0 0 xs.length, .int .i64 k] [(0, some (5, inss xs), some (5, inss (insMarks k xs.length)))] (.int .i64 (k + 5 * xs.length)) := by
 refine EH m76 Tryz.func165 ?_
 unfold m76
 simp only [go_sem, qA, qB, qC, qD, qE, qF, qG, qH]
 repeat refine K ?_
 refine qA6 (ι := Nat) (fun i => .mk [(0, .ns 0 0 xs.length), (1, .int .i64 (k + 5 * i)), (5, .int .i64 i)] [(0, 5, inss (insMarks k i ++ xs.drop i))] 10) (fun i => i ≤ xs.length) (fun i => xs.length - i) 0 (by omega) ?_ ?_
 ·refine Sub.shape [] id (by omega) ?_ ?_ ?_ ?_ <;> simp [qA3]
  simp [insMarks]
 ·intro i hi
  have hm : (insMarks k i ++ xs.drop i).length = xs.length := by simp; omega
  simp only [go_sem, qA, qB, qC, qD, qE, qF, qG, qH, hm]
  refine qA1 (fun hc => ?_) (fun hc => ?_)
  ·simp only [decide_eq_true_eq] at hc
   have hl : i < xs.length := by omega
   have gi : ∀ a b c d e, (inss ((insMarks k i ++ xs.drop i).set i ⟨a, b, c, d, e⟩)).getD i [] = [.int .i64 a, .int .i64 b, .int .i64 c, .int .i64 d, .int .i64 e] := fun a b c d e => by
    rw [qBo _ i (by rw [List.length_set, hm]; exact hl), qA8 _ _ _ _ (by rw [hm]; exact hl)]
   have q1 : IntKind.i64.wrap (k + 5 * (i : Int) + 1) = k + 5 * (i : Int) + 1 := qAl (by omega) (by omega)
   have q2 : IntKind.i64.wrap (k + 5 * (i : Int) + 1 + 1) = k + 5 * (i : Int) + 1 + 1 := qAl (by omega) (by omega)
   have q3 : IntKind.i64.wrap (k + 5 * (i : Int) + 1 + 1 + 1) = k + 5 * (i : Int) + 1 + 1 + 1 := qAl (by omega) (by omega)
   have q4 : IntKind.i64.wrap (k + 5 * (i : Int) + 1 + 1 + 1 + 1) = k + 5 * (i : Int) + 1 + 1 + 1 + 1 := qAl (by omega) (by omega)
   have q5 : IntKind.i64.wrap (k + 5 * (i : Int) + 1 + 1 + 1 + 1 + 1) = k + 5 * ((i + 1 : Nat) : Int) := by rw [qAl (by omega) (by omega)]; omega
   have hs := insMarks_set xs k i hl
   simp only [insMark] at hs
   simp only [go_sem, qA, qB, qC, qD, qE, qF, qG, qH, qBo (insMarks k i ++ xs.drop i) i (hm ▸ hl), hm, gi, List.length_set, q1, q2, q3, q4, q5, hs, qA4 (i := i) (by omega)]
   repeat refine K ?_
   refine qA5 (i + 1) (Sub.shape [] id (by omega) ?_ ?_ ?_ ?_) ?_ ?_
   any_goals (first | omega | (simp [qA3]; done))
  ·simp only [decide_eq_false_iff_not] at hc
   have : i = xs.length := by omega
   subst this
   simp only [go_sem, qA, qB, qC, qD, qE, qF, qG, qH]
   repeat refine K ?_
   refine fz ?_; simp [FinS, nilL, nilV, oneOr, -List.drop_one]
def tot : List (List Ins) → Nat
 | [] => 0
 | b :: l => b.length + tot l
theorem tot_app : ∀ (a b : List (List Ins)), tot (a ++ b) = tot a + tot b
 | [], b => by simp [tot]
 | x :: a, b => by simp [tot, tot_app a b]; omega
def bodMarks : Int → List (List Ins) → List (List Ins)
 | _, [] => []
 | k, b :: l => insMarks k b.length :: bodMarks (k + 5 * b.length) l
@[simp] theorem bodMarks_length : ∀ (k : Int) (l : List (List Ins)), (bodMarks k l).length = l.length
 | _, [] => rfl
 | k, b :: l => by simp [bodMarks, bodMarks_length]
theorem bodMarks_snoc : ∀ (k : Int) (a : List (List Ins)) (b : List Ins), bodMarks k (a ++ [b]) = bodMarks k a ++ [insMarks (k + 5 * tot a) b.length]
 | k, [], b => by simp [bodMarks, tot]
 | k, x :: a, b => by
  simp only [List.cons_append, bodMarks, bodMarks_snoc _ a b, tot]
  congr 4
  push_cast
  omega
theorem take_snoc {α : Type} (l : List α) (d : α) (i : Nat) (h : i < l.length) : l.take (i + 1) = l.take i ++ [l.getD i d] := by
 rw [List.take_succ_eq_append_getElem h]
 simp [List.getD_eq_getElem?_getD, h]
theorem tot_take (l : List (List Ins)) (i : Nat) (h : i < l.length) : tot (l.take (i + 1)) = tot (l.take i) + (l.getD i []).length := by
 rw [take_snoc l [] i h, tot_app]
 simp [tot]
theorem tot_take_le (l : List (List Ins)) (i : Nat) : tot (l.take i) ≤ tot l := by
 have : tot l = tot (l.take i) + tot (l.drop i) := by rw [← tot_app, List.take_append_drop]
 omega
theorem bodMarks_set (l : List (List Ins)) (k : Int) (i : Nat) (h : i < l.length) : (bodMarks k (l.take i) ++ l.drop i).set i (insMarks (k + 5 * tot (l.take i)) (l.getD i []).length) = bodMarks k (l.take (i + 1)) ++ l.drop (i + 1) := by
 have hl : (bodMarks k (l.take i)).length = i := by simp; omega
 rw [List.set_append_right _ _ (by omega), hl, Nat.sub_self, List.drop_eq_getElem_cons h, List.set_cons_zero, take_snoc l [] i h, bodMarks_snoc]
 simp
theorem bodMarks_getD (l : List (List Ins)) (k : Int) (i : Nat) (h : i < l.length) : (bodMarks k (l.take i) ++ l.drop i).getD i [] = l.getD i [] := by
 have hl : (bodMarks k (l.take i)).length = i := by simp; omega
 rw [List.getD_eq_getElem?_getD, List.getElem?_append_right (by omega), hl]
 simp [List.getD_eq_getElem?_getD]
theorem markInsSS_ok (l : List (List Ins)) (k : Int) (h0 : 0 ≤ k) (h1 : k + 5 * tot l < 2 ^ 59) (h2 : l.length < 2 ^ 59) : CallOk Tryz.prog num 54 [.ns 0 0 l.length, .int .i64 k] [(0, some (1, bodies .own l), some (1, bodies .own (bodMarks k l)))] (.int .i64 (k + 5 * tot l)) := by
 refine EH m54 Tryz.func87 ?_
 unfold m54
 simp only [go_sem, qA, qB, qC, qD, qE, qF, qG, qH]
 repeat refine K ?_
 refine qA6 (ι := Nat) (fun i => .mk [(0, .ns 0 0 l.length), (1, .int .i64 (k + 5 * tot (l.take i))), (5, .int .i64 i)] [(0, 1, bodies .own (bodMarks k (l.take i) ++ l.drop i))] 10) (fun i => i ≤ l.length) (fun i => l.length - i) 0 (by omega) ?_ ?_
 ·refine Sub.shape [] id (by omega) ?_ ?_ ?_ ?_ <;> simp [qA3]
  all_goals simp [bodMarks, tot]
 ·intro i hi
  have hm : (bodMarks k (l.take i) ++ l.drop i).length = l.length := by simp; omega
  simp only [go_sem, qA, qB, qC, qD, qE, qF, qG, qH, hm]
  refine qA1 (fun hc => ?_) (fun hc => ?_)
  ·simp only [decide_eq_true_eq] at hc
   have hl' : i < l.length := by omega
   have ht := tot_take l i hl'
   have htl := tot_take_le l (i + 1)
   have gb : (bodies .own (bodMarks k (l.take i) ++ l.drop i)).getD i [] = [.sl .own 5 (inss (l.getD i []))] := by
    rw [qBp .own _ i (hm ▸ hl'), bodMarks_getD l k i hl']
   simp only [go_sem, qA, qB, qC, qD, qE, qF, qG, qH, gb, hm, qA4 (i := i) (by omega)]
   repeat refine K ?_
   refine CA [(0, 10)] (markInsS_ok (l.getD i []) (k + 5 * tot (l.take i)) (by omega) (by omega)) ?_
   try simp only [go_sem, qA, qB, qC, qD, qE, qF, qG, qH]
   repeat refine K ?_
   have e5 : k + 5 * (tot (l.take i) : Int) + 5 * ((l.getD i []).length : Int) = k + 5 * (tot (l.take (i + 1)) : Int) := by omega
   try simp only [go_sem, qA, qB, qC, qD, qE, qF, qG, qH, e5, hm, qA4 (i := i) (by omega)]
   repeat refine K ?_
   refine qA5 (i + 1) ?_ hl' (by omega)
   refine Sub.trans (Sub.foldAt 0 0 10 rfl (by simp [-gD] <;> omega) rfl (by decide) (by decide) rfl (by simp <;> omega)) ?_
   simp only [fS, qA, qC, bodies_set, insMarks_length, bodMarks_set l k i hl']
   refine Sub.shape [] id (by omega) ?_ ?_ ?_ ?_ <;> simp [qA3]
  ·simp only [decide_eq_false_iff_not] at hc
   have he : l.take i = l := List.take_of_length_le (by omega)
   have hd : l.drop i = [] := List.drop_eq_nil_of_le (by omega)
   simp only [go_sem, qA, qB, qC, qD, qE, qF, qG, qH, he, hd]
   repeat refine K ?_
   refine fz ?_; simp [FinS, nilL, nilV, oneOr, -List.drop_one]
theorem markProg_ok (p : Prog) (k : Int) (h0 : 0 ≤ k) (h1 : k + p.caps.length + 5 * tot p.bods < 2 ^ 59) (h2 : p.bods.length < 2 ^ 59) : CallOk Tryz.prog num 31 [.agg [.ns 0 0 p.caps.length, .ns 1 0 p.bods.length], .int .i64 k]
  [(0, some (1, ints p.caps), some (1, ints (marks k p.caps.length))), (1, some (1, bodies .own p.bods), some (1, bodies .own (bodMarks (k + p.caps.length) p.bods)))] (.int .i64 (k + p.caps.length + 5 * tot p.bods)) := by
 refine EH m31 Tryz.func31 (hh := by refine qB1 _ _ _ _ (qB1 _ _ _ _ ((hb_nil _).2 trivial) (by decide) ?_) (by decide) ?_ <;> simp [qAk]) ?_
 unfold m31
 simp only [go_sem, qA, qB, qC, qD, qE, qF, qG, qH]
 repeat refine K ?_
 refine CA [(0, 0)] (markIntS_ok p.caps k h0 (by omega)) ?_
 try simp only [go_sem, qA, qB, qC, qD, qE, qF, qG, qH]
 repeat refine K ?_
 refine CA [(0, 1)] (markInsSS_ok p.bods (k + p.caps.length) (by omega) (by omega) h2) ?_
 try simp only [go_sem, qA, qB, qC, qD, qE, qF, qG, qH]
 repeat refine K ?_
 refine fz ?_; simp [FinS, nilL, nilV, oneOr, -List.drop_one]
end Go.Sep
