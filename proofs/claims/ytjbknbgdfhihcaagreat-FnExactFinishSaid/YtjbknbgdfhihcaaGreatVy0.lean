/- Contracts of functions. -/
import Derived.Test.YtjbknbgdfhihcaaGreatVj0
import Derived.Test.YtjbknbgdfhihcaaGreatVu0
namespace Go.Sep
open Go.Proofs
set_option linter.unusedSimpArgs false
set_option linter.unusedVariables false
set_option maxRecDepth 100000
open Nat renaming reduceAdd → qA, reduceMul → qB, reduceEqDiff → qC, reduceBEq → qD
open Int renaming reduceToNat → qE, reduceEq → qF, reduceLT → qG, reduceLE → qH
def m207 : MFn := ⟨24, [.t 2], .seq (xr [xo 2 (.mv (.c (.nil)))]) (.seq (xr [xo 7 (.mkSl [xz] 0 []), xv 3 7]) (.seq (xr [xo 4 (.mv (xi 0))]) (.seq (.seq (xr [xv 8 0, xe 9 8, xo 10 (.mv (xi 0))]) (.blk 0 (.loop (.seq (xr [xo 11 (.bin .lss (.t 10) (.t 9))]) (.seq (.cond 11 (.skip) (.exit 0)) (.seq (.blk 1 (.seq (xr [xo 12 (.iad 5 (.t 8) (.t 10)), xm 13 5 12, xo 6 (.alloc [xz, xz, xz, xz, xz]), ⟨none, .store 5 (.t 6) (.t 13), none⟩]) (.seq (xr [xv 14 3, xv 15 4, xo 16 (.mkSl [xz] 1 [(0, .t 15)]), xo 17 (.app 1 8 (.t 14) (.t 16)), xv 3 17]) (xr [xv 18 4, xm 19 5 6, xc1 20 262 (.t 19), xo 21 (.bin .add (.t 18) (.t 20)), xv 4 21])))) (xr [xo 22 (.bin .add (.t 10) (xi 1)), xv 10 22]))))))) (.seq (xr [xv 23 3, xv 2 23]) (.ret)))))⟩
def m224 : MFn := ⟨59, [.t 6, .t 7], .seq (xr [xb 3 0, xo 6 (.mv (xi 0)), xF 7]) (.seq (.seq (xr [xm 11 2 3, xc1 12 62 (.t 11), xo 13 (.un .«not» (.t 12)), xv 14 13, xg 15 (.mv (.t 1)) 14 false, xg 16 (.fad 1 (.t 3)) 14 false, xg 17 (.load 1 false (.t 16)) 14 false, xg 18 (.len (.t 17)) 14 false, xg 19 (.bin .sub (.t 18) (xi 1)) 14 false, xg 20 (.call 64 [false, false, false] [.t 15, xi 0, .t 19]) 14 false, xg 21 (.un .«not» (.t 20)) 14 false, xo 22 (.pick (.t 14) (.c (.bool true)) (.t 21))]) (.cond 22 (.seq (xr [xo 6 (.mv (.c (.int .i64 (-1)))), xF 7]) (.ret)) (.skip))) (.seq (xr [xa 23 1 3, xl 24 23, xv 25 1, xo 26 (.iad 1 (.t 24) (.t 25)), xl 27 26, xc1 28 252 (.t 27), xv 8 28]) (.seq (xr [xv 29 8, xe 30 29, xo 31 (.bin .sub (.t 30) (xi 1)), xv 9 31]) (.seq (.seq (xr [xv 32 2, xv 33 8, xv 34 9, xo 35 (.iad 1 (.t 33) (.t 34)), xl 36 35, xo 37 (.bin .sub (.t 36) (xi 1)), xc3 38 64 (.t 32) (xi 0) (.t 37), xo 39 (.un .«not» (.t 38))]) (.cond 39 (.seq (xr [xo 6 (.mv (.c (.int .i64 (-1)))), xF 7]) (.ret)) (.skip))) (.seq (.seq (xr [xo 10 (.mv (xi 0))]) (.blk 0 (.loop (.seq (.seq (xr [xv 40 10, xv 41 9, xo 42 (.bin .lss (.t 40) (.t 41))]) (.cond 42 (.skip) (.exit 0))) (.seq (.blk 1 (.seq (xr [xv 45 2, xv 46 8, xv 47 10, xo 48 (.bin .add (.t 47) (xi 1)), xo 49 (.iad 1 (.t 46) (.t 48)), xl 50 49, xo 51 (.bin .lss (.t 45) (.t 50))]) (.cond 51 (.seq (.dreg (.take 0 (xv 52 10) (.take 1 (xv 53 2) (.take 2 (xv 54 8) (.take 3 (xv 55 10) (.take 4 (xo 56 (.iad 1 (.t 54) (.t 55))) (.take 5 (xl 57 56) (.take 6 (xo 58 (.bin .eql (.t 53) (.t 57))) (.only 7 [0] (xv 6 52) (.only 8 [0, 1, 2, 3, 4, 5, 6] (xv 7 58) (.done))))))))))) (.ret)) (.skip)))) (xr [xv 43 10, xo 44 (.bin .add (.t 43) (xi 1)), xv 10 44])))))) (.seq (xr [xo 6 (.mv (.c (.int .i64 (-1)))), xF 7]) (.ret)))))))⟩
def m230 : MFn := ⟨29, [.t 6, .t 7], .seq (xr [xb 3 0, xo 6 (.mv (xi 0)), xF 7]) (.seq (.seq (xr [xm 8 2 3, xc1 9 48 (.t 8), xo 10 (.un .«not» (.t 9)), xv 11 10, xg 12 (.mv (.t 1)) 11 false, xg 13 (.fad 1 (.t 3)) 11 false, xg 14 (.load 1 false (.t 13)) 11 false, xg 15 (.len (.t 14)) 11 false, xg 16 (.bin .sub (.t 15) (xi 1)) 11 false, xg 17 (.call 59 [false, false, false] [.t 12, xi 0, .t 16]) 11 false, xg 18 (.un .«not» (.t 17)) 11 false, xo 19 (.pick (.t 11) (.c (.bool true)) (.t 18))]) (.cond 19 (.seq (xr [xo 6 (.mv (.c (.int .i64 (-1)))), xF 7]) (.ret)) (.skip))) (.seq (xr [xa 20 1 3, xl 21 20, xv 22 1, xo 23 (.iad 1 (.t 21) (.t 22)), xl 24 23, xv 25 2, xc2 26 280 (.t 24) (.t 25), xo 27 (.ext (.t 26) 0), xo 28 (.ext (.t 26) 1), xv 6 27, xv 7 28]) (.ret)))⟩
def m252 : MFn := ⟨26, [.t 2], .seq (xr [xo 2 (.mv (.c (.nil)))]) (.seq (xr [xo 5 (.mkSl [xz] 1 [(0, xi 0)]), xv 3 5]) (.seq (.seq (xr [xo 4 (.mv (xi 0))]) (.blk 0 (.loop (.seq (.seq (xr [xv 6 4, xv 7 0, xe 8 7, xo 9 (.bin .lss (.t 6) (.t 8))]) (.cond 9 (.skip) (.exit 0))) (.seq (.blk 1 (.dreg (.take 0 (xv 12 3) (.take 1 (xv 13 3) (.take 2 (xv 14 4) (.take 5 (xv 17 0) (.take 6 (xv 18 4) (.both 3 [1, 2] (xo 15 (.iad 1 (.t 13) (.t 14))) (.both 4 [3, 1, 2] (xl 16 15) (.only 7 [5, 6] (xo 19 (.iad 5 (.t 17) (.t 18))) (.only 8 [7, 5, 6] (xm 20 5 19) (.only 9 [8, 7, 5, 6] (xc1 21 285 (.t 20)) (.only 10 [4, 9, 3, 8, 1, 2, 7, 5, 6] (xo 22 (.bin .add (.t 16) (.t 21))) (.only 11 [10, 4, 9, 3, 8, 1, 2, 7, 5, 6] (xo 23 (.mkSl [xz] 1 [(0, .t 22)])) (.only 12 [0, 9, 11, 8, 10, 7, 4, 5, 6, 3, 1, 2] (xo 24 (.app 1 8 (.t 12) (.t 23))) (.only 13 [0, 1, 2, 5, 6] (xv 3 24) (.done)))))))) 7 [5, 6] (xo 19 (.iad 5 (.t 17) (.t 18))) (.both 4 [3, 1, 2] (xl 16 15) (.only 8 [7, 5, 6] (xm 20 5 19) (.only 9 [8, 7, 5, 6] (xc1 21 285 (.t 20)) (.only 10 [4, 9, 3, 8, 1, 2, 7, 5, 6] (xo 22 (.bin .add (.t 16) (.t 21))) (.only 11 [10, 4, 9, 3, 8, 1, 2, 7, 5, 6] (xo 23 (.mkSl [xz] 1 [(0, .t 22)])) (.only 12 [0, 9, 11, 8, 10, 7, 4, 5, 6, 3, 1, 2] (xo 24 (.app 1 8 (.t 12) (.t 23))) (.only 13 [0, 1, 2, 5, 6] (xv 3 24) (.done))))))) 8 [7, 5, 6] (xm 20 5 19) (.both 4 [3, 1, 2] (xl 16 15) (.only 9 [8, 7, 5, 6] (xc1 21 285 (.t 20)) (.only 10 [4, 9, 3, 8, 1, 2, 7, 5, 6] (xo 22 (.bin .add (.t 16) (.t 21))) (.only 11 [10, 4, 9, 3, 8, 1, 2, 7, 5, 6] (xo 23 (.mkSl [xz] 1 [(0, .t 22)])) (.only 12 [0, 9, 11, 8, 10, 7, 4, 5, 6, 3, 1, 2] (xo 24 (.app 1 8 (.t 12) (.t 23))) (.only 13 [0, 1, 2, 5, 6] (xv 3 24) (.done)))))) 9 [8, 7, 5, 6] (xc1 21 285 (.t 20)) (.only 4 [3, 1, 2] (xl 16 15) (.only 10 [4, 9, 3, 8, 1, 2, 7, 5, 6] (xo 22 (.bin .add (.t 16) (.t 21))) (.only 11 [10, 4, 9, 3, 8, 1, 2, 7, 5, 6] (xo 23 (.mkSl [xz] 1 [(0, .t 22)])) (.only 12 [0, 9, 11, 8, 10, 7, 4, 5, 6, 3, 1, 2] (xo 24 (.app 1 8 (.t 12) (.t 23))) (.only 13 [0, 1, 2, 5, 6] (xv 3 24) (.done))))))))) 7 [5, 6] (xo 19 (.iad 5 (.t 17) (.t 18))) (.both 3 [1, 2] (xo 15 (.iad 1 (.t 13) (.t 14))) (.both 4 [3, 1, 2] (xl 16 15) (.only 8 [7, 5, 6] (xm 20 5 19) (.only 9 [8, 7, 5, 6] (xc1 21 285 (.t 20)) (.only 10 [4, 9, 3, 8, 1, 2, 7, 5, 6] (xo 22 (.bin .add (.t 16) (.t 21))) (.only 11 [10, 4, 9, 3, 8, 1, 2, 7, 5, 6] (xo 23 (.mkSl [xz] 1 [(0, .t 22)])) (.only 12 [0, 9, 11, 8, 10, 7, 4, 5, 6, 3, 1, 2] (xo 24 (.app 1 8 (.t 12) (.t 23))) (.only 13 [0, 1, 2, 5, 6] (xv 3 24) (.done))))))) 8 [7, 5, 6] (xm 20 5 19) (.both 4 [3, 1, 2] (xl 16 15) (.only 9 [8, 7, 5, 6] (xc1 21 285 (.t 20)) (.only 10 [4, 9, 3, 8, 1, 2, 7, 5, 6] (xo 22 (.bin .add (.t 16) (.t 21))) (.only 11 [10, 4, 9, 3, 8, 1, 2, 7, 5, 6] (xo 23 (.mkSl [xz] 1 [(0, .t 22)])) (.only 12 [0, 9, 11, 8, 10, 7, 4, 5, 6, 3, 1, 2] (xo 24 (.app 1 8 (.t 12) (.t 23))) (.only 13 [0, 1, 2, 5, 6] (xv 3 24) (.done)))))) 9 [8, 7, 5, 6] (xc1 21 285 (.t 20)) (.only 4 [3, 1, 2] (xl 16 15) (.only 10 [4, 9, 3, 8, 1, 2, 7, 5, 6] (xo 22 (.bin .add (.t 16) (.t 21))) (.only 11 [10, 4, 9, 3, 8, 1, 2, 7, 5, 6] (xo 23 (.mkSl [xz] 1 [(0, .t 22)])) (.only 12 [0, 9, 11, 8, 10, 7, 4, 5, 6, 3, 1, 2] (xo 24 (.app 1 8 (.t 12) (.t 23))) (.only 13 [0, 1, 2, 5, 6] (xv 3 24) (.done)))))))) 8 [7, 5, 6] (xm 20 5 19) (.both 3 [1, 2] (xo 15 (.iad 1 (.t 13) (.t 14))) (.both 4 [3, 1, 2] (xl 16 15) (.only 9 [8, 7, 5, 6] (xc1 21 285 (.t 20)) (.only 10 [4, 9, 3, 8, 1, 2, 7, 5, 6] (xo 22 (.bin .add (.t 16) (.t 21))) (.only 11 [10, 4, 9, 3, 8, 1, 2, 7, 5, 6] (xo 23 (.mkSl [xz] 1 [(0, .t 22)])) (.only 12 [0, 9, 11, 8, 10, 7, 4, 5, 6, 3, 1, 2] (xo 24 (.app 1 8 (.t 12) (.t 23))) (.only 13 [0, 1, 2, 5, 6] (xv 3 24) (.done)))))) 9 [8, 7, 5, 6] (xc1 21 285 (.t 20)) (.only 4 [3, 1, 2] (xl 16 15) (.only 10 [4, 9, 3, 8, 1, 2, 7, 5, 6] (xo 22 (.bin .add (.t 16) (.t 21))) (.only 11 [10, 4, 9, 3, 8, 1, 2, 7, 5, 6] (xo 23 (.mkSl [xz] 1 [(0, .t 22)])) (.only 12 [0, 9, 11, 8, 10, 7, 4, 5, 6, 3, 1, 2] (xo 24 (.app 1 8 (.t 12) (.t 23))) (.only 13 [0, 1, 2, 5, 6] (xv 3 24) (.done))))))) 9 [8, 7, 5, 6] (xc1 21 285 (.t 20)) (.only 3 [1, 2] (xo 15 (.iad 1 (.t 13) (.t 14))) (.only 4 [3, 1, 2] (xl 16 15) (.only 10 [4, 9, 3, 8, 1, 2, 7, 5, 6] (xo 22 (.bin .add (.t 16) (.t 21))) (.only 11 [10, 4, 9, 3, 8, 1, 2, 7, 5, 6] (xo 23 (.mkSl [xz] 1 [(0, .t 22)])) (.only 12 [0, 9, 11, 8, 10, 7, 4, 5, 6, 3, 1, 2] (xo 24 (.app 1 8 (.t 12) (.t 23))) (.only 13 [0, 1, 2, 5, 6] (xv 3 24) (.done))))))))))))))))) (xr [xv 10 4, xo 11 (.bin .add (.t 10) (xi 1)), xv 4 11])))))) (.seq (xr [xv 25 3, xv 2 25]) (.ret))))⟩
def m280 : MFn := ⟨32, [.t 4, .t 5], .seq (xr [xo 4 (.mv (xi 0)), xF 5]) (.seq (.seq (xr [xv 8 0, xc1 9 207 (.t 8), xe 10 9, xo 11 (.mv (xi 0))]) (.blk 0 (.loop (.seq (xr [xo 12 (.bin .lss (.t 11) (.t 10))]) (.seq (.cond 12 (.skip) (.exit 0)) (.seq (.blk 1 (.seq (xr [xv 13 11, xo 14 (.iad 1 (.t 9) (.t 11)), xl 15 14, xv 6 13, xv 7 15]) (.seq (xr [xv 16 1, xv 17 7, xv 18 7, xv 19 0, xv 20 6, xo 21 (.iad 5 (.t 19) (.t 20)), xm 22 5 21, xc1 23 262 (.t 22), xo 24 (.bin .add (.t 18) (.t 23)), xo 25 (.bin .sub (.t 24) (xi 1)), xc3 26 59 (.t 16) (.t 17) (.t 25)]) (.cond 26 (.seq (xr [xv 27 6, xv 28 1, xv 29 7, xo 30 (.bin .eql (.t 28) (.t 29)), xv 4 27, xv 5 30]) (.ret)) (.skip))))) (xr [xo 31 (.bin .add (.t 11) (xi 1)), xv 11 31]))))))) (.seq (xr [xo 4 (.mv (.c (.int .i64 (-1)))), xF 5]) (.ret)))⟩
theorem ints_snoc' (l : List Int) (a : Int) : ints l ++ [[.int .i64 a]] = ints (l ++ [a]) := by simp [ints]
def sumC : List Int → Int
 | [] => 0
 | c :: l => c + 4 + sumC l
def lieOk (caps : List Int) : Bool := capsOk caps && decide (sumC caps ≤ 24)
def base (caps : List Int) (n : Int) : Int := if within n 0 (caps.length - 1) && lieOk caps then sumC (caps.take n.toNat) else -1
def szB : List Ins → Int
 | [] => 0
 | x :: l => emitSize x + szB l
theorem szB_app : ∀ (a b : List Ins), szB (a ++ b) = szB a + szB b
 | [], b => by simp [szB]
 | x :: a, b => by simp only [List.cons_append, szB, szB_app a b]; omega
theorem szB_take (l : List Ins) (i : Nat) (h : i < l.length) : szB (l.take (i + 1)) = szB (l.take i) + emitSize (l.getD i default) := by
 rw [take_snoc l default i h, szB_app]
 simp [szB]
theorem emitSize_le (x : Ins) : 0 ≤ emitSize x ∧ emitSize x ≤ 32 := by
 unfold emitSize numb
 repeat' split
 all_goals omega
theorem szB_le : ∀ (l : List Ins), 0 ≤ szB l ∧ szB l ≤ 32 * l.length
 | [] => by simp [szB]
 | x :: l => by
  have := szB_le l
  have := emitSize_le x
  simp only [szB, List.length_cons]
  omega
theorem szB_take_le (l : List Ins) (i : Nat) : 0 ≤ szB (l.take i) ∧ szB (l.take i) ≤ 32 * l.length := by
 have h1 := szB_le (l.take i)
 have h4 : (l.take i).length ≤ l.length := by simp; omega
 omega
def startsN (b : List Ins) (n : Nat) : List Int := (List.range n).map fun i => szB (b.take i)
theorem qBx (b : List Ins) (n : Nat) : (startsN b n).length = n := by simp [startsN]
theorem startsN_succ (b : List Ins) (n : Nat) : startsN b (n + 1) = startsN b n ++ [szB (b.take n)] := by simp [startsN, List.range_succ]
theorem startsN_getD (b : List Ins) (n i : Nat) (h : i < n) : (startsN b n).getD i 0 = szB (b.take i) := by simp [startsN, List.getD_eq_getElem?_getD, h]
def startsOf (b : List Ins) : List Int := startsN b b.length
theorem startsOf_ok (b : List Ins) (hl : b.length < 2 ^ 40) : CallOk Tryz.prog num 207 [.sl .bw 5 (inss b)] [] (.sl .own 1 (ints (startsOf b))) := by
 refine EN m207 Tryz.func161 ?_
 unfold m207
 simp only [go_sem, qA, qB, qC, qD, qE, qF, qG, qH]
 repeat refine K ?_
 refine qA6 (ι := Nat) (fun i => .mk [(3, .ns 10 0 i), (4, .int .i64 (szB (b.take i))), (8, .sl .bw 5 (inss b)), (9, .int .i64 b.length), (10, .int .i64 i)] [(10, 1, ints (startsN b i))] 11) (fun i => i ≤ b.length) (fun i => b.length - i) 0 (by simp) ?_ ?_
 ·refine Sub.shape [] id (by omega) ?_ ?_ ?_ ?_ <;> simp [qA3]
  all_goals simp [startsN, szB, ints]
 ·intro i hi
  simp only [go_sem, qA, qB, qC, qD, qE, qF, qG, qH]
  refine qA1 (fun hc => ?_) (fun hc => ?_)
  ·simp only [decide_eq_true_eq] at hc
   have hl' : i < b.length := by omega
   have h1 := szB_take_le b i
   have h2 := szB_take_le b (i + 1)
   have h3 := szB_take b i hl'
   have q1 : IntKind.i64.wrap (szB (b.take i) + emitSize (b.getD i default)) = szB (b.take (i + 1)) := by rw [qAl (by omega) (by omega)]; omega
   simp only [go_sem, qA, qB, qC, qD, qE, qF, qG, qH, qBo b i hl', qBx]
   repeat refine K ?_
   refine CA [] (qCm (b.getD i default)) ?_
   try simp only [go_sem, qA, qB, qC, qD, qE, qF, qG, qH]
   repeat refine K ?_
   try simp only [go_sem, qA, qB, qC, qD, qE, qF, qG, qH, q1, qA4 (i := i) (by omega)]
   repeat refine K ?_
   refine qA5 (i + 1) (Sub.shape [] (fun n => if n = 10 then 13 else n) (by omega) ?_ ?_ ?_ ?_) hl' (by omega) <;> simp [qA3]
   all_goals exact .inl (by rw [startsN_succ, ints_snoc'])
  ·simp only [decide_eq_false_iff_not] at hc
   have he : i = b.length := by omega
   subst he
   simp only [go_sem, qA, qB, qC, qD, qE, qF, qG, qH]
   repeat refine K ?_
   refine ⟨_, Sub.refl _, qBc ?_⟩; simp [-List.drop_one]
   simp [qBx, startsOf]
theorem l11Starts_ok (b : List Ins) (hl : b.length < 2 ^ 40) : CallOk Tryz.prog num 252 [.sl .bw 5 (inss b)] [] (.sl .own 1 (ints (startsN b (b.length + 1)))) := by
 refine EN m252 Tryz.func208 ?_
 unfold m252
 simp only [go_sem, qA, qB, qC, qD, qE, qF, qG, qH]
 repeat refine K ?_
 refine qA6 (ι := Nat) (fun i => .mk [(0, .sl .bw 5 (inss b)), (3, .ns 10 0 (i + 1)), (4, .int .i64 i)] [(10, 1, ints (startsN b (i + 1)))] 11) (fun i => i ≤ b.length) (fun i => b.length - i) 0 (by simp) ?_ ?_
 ·refine Sub.shape [] id (by omega) ?_ ?_ ?_ ?_ <;> simp [qA3]
  all_goals simp [startsN, szB, ints]
 ·intro i hi
  simp only [go_sem, qA, qB, qC, qD, qE, qF, qG, qH]
  refine qA1 (fun hc => ?_) (fun hc => ?_)
  ·simp only [decide_eq_true_eq] at hc
   have hl' : i < b.length := by omega
   have h1 := szB_take_le b i
   have h2 := szB_take_le b (i + 1)
   have h3 := szB_take b i hl'
   have q1 : IntKind.i64.wrap (szB (b.take i) + emitSize (b.getD i default)) = szB (b.take (i + 1)) := by rw [qAl (by omega) (by omega)]; omega
   have g := startsN_getD b (i + 1) i (by omega)
   have hgi := qBo b i hl'
   have hgs := qA0 (startsN b (i + 1)) i (by rw [qBx]; omega)
   have hsl := qBx b (i + 1)
   have hws := qA4 (i := i) (by omega)
   repeat' (first
    | (simp only [go_sem, qA, qB, qC, qD, qE, qF, qG, qH, hgi, hgs, hsl, g, q1, hws])
    | (refine qB3 (specEmitSize_ok _) rfl rfl rfl rfl ?_)
    | (refine K ?_)
    | (refine And.intro ?_ ?_)
    | fail)
   all_goals
    refine qA5 (i + 1) (Sub.shape [] (fun n => if n = 10 then 12 else n) (by omega) ?_ ?_ ?_ ?_) hl' (by omega) <;> simp [qA3]
    all_goals exact .inl (by rw [startsN_succ b (i + 1), ints_snoc'])
  ·simp only [decide_eq_false_iff_not] at hc
   have he : i = b.length := by omega
   subst he
   simp only [go_sem, qA, qB, qC, qD, qE, qF, qG, qH]
   repeat refine K ?_
   refine ⟨_, Sub.refl _, qBc ?_⟩; simp [-List.drop_one]
   simp [qBx]
def placeAt : List Ins → Int → Int → Int → Int × Bool
 | [], _, _, _ => (-1, false)
 | x :: l, off, i, at_ => if off ≤ at_ ∧ at_ ≤ off + emitSize x - 1 then (i, decide (at_ = off)) else placeAt l (off + emitSize x) (i + 1) at_
def placeOf (p : Prog) (body at_ : Int) : Int × Bool := if progOk p && within body 0 (p.bods.length - 1) then placeAt (p.bods.getD body.toNat []) 0 0 at_ else (-1, false)
theorem placeAt_step (b : List Ins) (i : Nat) (h : i < b.length) (at_ : Int) : placeAt (b.drop i) (szB (b.take i)) i at_ = if szB (b.take i) ≤ at_ ∧ at_ ≤ szB (b.take (i + 1)) - 1 then ((i : Int), decide (at_ = szB (b.take i))) else placeAt (b.drop (i + 1)) (szB (b.take (i + 1))) ((i + 1 : Nat) : Int) at_ := by
 have hd : b.drop i = b.getD i default :: b.drop (i + 1) := by rw [List.drop_eq_getElem_cons h]; simp [List.getD_eq_getElem?_getD, h]
 rw [hd, szB_take b i h]
 simp only [placeAt]
 push_cast
 rfl
theorem placeAt_end (b : List Ins) (i : Nat) (h : b.length ≤ i) (off k at_ : Int) : placeAt (b.drop i) off k at_ = (-1, false) := by
 rw [List.drop_eq_nil_of_le h]
 rfl
theorem placeAt_out : ∀ (b : List Ins) (off k at_ : Int), at_ < off ∨ off + szB b ≤ at_ → placeAt b off k at_ = (-1, false)
 | [], _, _, _, _ => rfl
 | x :: l, off, k, at_, h => by
  have h1 := emitSize_le x
  have h2 := szB_le l
  simp only [szB] at h
  simp only [placeAt]
  rw [if_neg (by omega)]
  exact placeAt_out l _ _ _ (by omega)
set_option maxHeartbeats 2000000 in
theorem implPlaceAt_ok (b : List Ins) (at_ : Int) (hl : b.length < 2 ^ 40) : CallOk Tryz.prog num 280 [.sl .bw 5 (inss b), .int .i64 at_] [] (.tup [.int .i64 (placeAt b 0 0 at_).1, .bool (placeAt b 0 0 at_).2]) := by
 refine EN m280 Tryz.func227 ?_
 unfold m280
 simp only [go_sem, qA, qB, qC, qD, qE, qF, qG, qH]
 repeat refine K ?_
 refine CA [] (startsOf_ok b hl) ?_
 try simp only [go_sem, qA, qB, qC, qD, qE, qF, qG, qH]
 repeat refine K ?_
 have hsl : (startsOf b).length = b.length := qBx b b.length
 try simp only [go_sem, qA, qB, qC, qD, qE, qF, qG, qH, hsl]
 repeat refine K ?_
 refine qA6 (ι := Nat) (fun i => .mk [(0, .sl .bw 5 (inss b)), (1, .int .i64 at_), (9, .ns 10 0 b.length), (10, .int .i64 b.length), (11, .int .i64 i)] [(10, 1, ints (startsOf b))] 11) (fun i => i ≤ b.length ∧ placeAt (b.drop i) (szB (b.take i)) i at_ = placeAt b 0 0 at_) (fun i => b.length - i) 0 (by simp [szB]) ?_ ?_
 ·refine Sub.shape [] id (by omega) ?_ ?_ ?_ ?_ <;> simp [qA3]
 ·rintro i ⟨hi, hp⟩
  simp only [go_sem, qA, qB, qC, qD, qE, qF, qG, qH]
  refine qA1 (fun hc => ?_) (fun hc => ?_)
  ·simp only [decide_eq_true_eq] at hc
   have hl' : i < b.length := by omega
   have hsg : (startsOf b).getD i 0 = szB (b.take i) := startsN_getD b b.length i hl'
   have h1 := szB_take_le b i
   have h2 := szB_take_le b (i + 1)
   have h3 := szB_take b i hl'
   have h4 := emitSize_le (b.getD i default)
   have hs := placeAt_step b i hl' at_
   have q1 : IntKind.i64.wrap (szB (b.take i) + emitSize (b.getD i default)) = szB (b.take (i + 1)) := by rw [qAl (by omega) (by omega)]; omega
   have q2 : IntKind.i64.wrap (szB (b.take (i + 1)) - 1) = szB (b.take (i + 1)) - 1 := qAl (by omega) (by omega)
   simp only [go_sem, qA, qB, qC, qD, qE, qF, qG, qH, qA0 (startsOf b) i (by omega), hsg, hsl, qBo b i hl']
   repeat refine K ?_
   refine CA [] (qCm (b.getD i default)) ?_
   try simp only [go_sem, qA, qB, qC, qD, qE, qF, qG, qH]
   repeat refine K ?_
   try simp only [go_sem, qA, qB, qC, qD, qE, qF, qG, qH, q1, q2]
   repeat refine K ?_
   refine CA [] (qAi at_ (szB (b.take i)) (szB (b.take (i + 1)) - 1)) ?_
   try simp only [go_sem, qA, qB, qC, qD, qE, qF, qG, qH]
   repeat refine K ?_
   rw [hp] at hs
   cases hw : within at_ (szB (b.take i)) (szB (b.take (i + 1)) - 1)
   ·have hn : ¬ (szB (b.take i) ≤ at_ ∧ at_ ≤ szB (b.take (i + 1)) - 1) := fun h => by rw [← within_iff] at h; rw [h] at hw; simp at hw
    rw [if_neg hn] at hs
    try simp only [go_sem, qA, qB, qC, qD, qE, qF, qG, qH, hw, qA4 (i := i) (by omega)]
    repeat refine K ?_
    refine qA5 (i + 1) (Sub.shape [] id (by omega) ?_ ?_ ?_ ?_) ?_ ?_
    any_goals (first | omega | (simp [qA3]; done))
    exact ⟨hl', hs.symm⟩
   ·rw [if_pos (within_iff.1 hw)] at hs
    try simp only [go_sem, qA, qB, qC, qD, qE, qF, qG, qH, hw]
    repeat refine K ?_
    refine ⟨_, Sub.refl _, qC2 (by simp) ?_⟩; simp [-List.drop_one]
    rw [hs]
    simp
  ·simp only [decide_eq_false_iff_not] at hc
   rw [placeAt_end b i (by omega)] at hp
   simp only [go_sem, qA, qB, qC, qD, qE, qF, qG, qH]
   repeat refine K ?_
   refine ⟨_, Sub.refl _, qC2 (by simp) ?_⟩; simp [-List.drop_one]
   rw [← hp]
   simp
theorem implPlaceOf_ok (p : Prog) (k at_ : Int) (hp : SmallP p) : CallOk Tryz.prog num 230 [.agg (progC .bw p), .int .i64 k, .int .i64 at_] [] (.tup [.int .i64 (placeOf p k at_).1, .bool (placeOf p k at_).2]) := by
 obtain ⟨h1, h2, h3⟩ := hp
 have w1 : IntKind.i64.wrap ((p.bods.length : Int) - 1) = p.bods.length - 1 := qAl (by omega) (by omega)
 refine EN m230 Tryz.func179 ?_
 unfold m230
 simp only [go_sem, qA, qB, qC, qD, qE, qF, qG, qH]
 repeat refine K ?_
 refine CA [] (implProgOk_ok p (by omega) (by omega) (fun b hb => by have := h3 b hb; omega)) ?_
 try simp only [go_sem, qA, qB, qC, qD, qE, qF, qG, qH]
 repeat refine K ?_
 cases hok : progOk p
 ·try simp only [go_sem, qA, qB, qC, qD, qE, qF, qG, qH, hok]
  repeat refine K ?_
  refine ⟨_, Sub.refl _, qC2 (by simp) ?_⟩; simp [-List.drop_one]
  simp [placeOf, hok]
 try simp only [go_sem, qA, qB, qC, qD, qE, qF, qG, qH, hok, w1]
 repeat refine K ?_
 refine CA [] (qAi k 0 (p.bods.length - 1)) ?_
 try simp only [go_sem, qA, qB, qC, qD, qE, qF, qG, qH]
 repeat refine K ?_
 cases hw : within k 0 (p.bods.length - 1)
 ·try simp only [go_sem, qA, qB, qC, qD, qE, qF, qG, qH, hw]
  repeat refine K ?_
  refine ⟨_, Sub.refl _, qC2 (by simp) ?_⟩; simp [-List.drop_one]
  simp [placeOf, hw]
 have hw' := within_iff.1 hw
 have hk : k.toNat < p.bods.length := by omega
 try simp only [go_sem, qA, qB, qC, qD, qE, qF, qG, qH, hw, qBp .bw p.bods k.toNat hk]
 repeat refine K ?_
 refine CA [] (implPlaceAt_ok (p.bods.getD k.toNat []) at_ (h3 _ (qAc p.bods k.toNat [] hk))) ?_
 try simp only [go_sem, qA, qB, qC, qD, qE, qF, qG, qH]
 repeat refine K ?_
 try simp only [go_sem, qA, qB, qC, qD, qE, qF, qG, qH]
 repeat refine K ?_
 refine ⟨_, Sub.refl _, qC2 (by simp) ?_⟩; simp [-List.drop_one]
 simp [placeOf, hok, hw]
set_option maxHeartbeats 2000000 in
theorem specPlaceOf_ok (p : Prog) (k at_ : Int) (hp : SmallP p) : CallOk Tryz.prog num 224 [.agg (progC .bw p), .int .i64 k, .int .i64 at_] [] (.tup [.int .i64 (placeOf p k at_).1, .bool (placeOf p k at_).2]) := by
 obtain ⟨h1, h2, h3⟩ := hp
 have w1 : IntKind.i64.wrap ((p.bods.length : Int) - 1) = p.bods.length - 1 := qAl (by omega) (by omega)
 refine EN m224 Tryz.func170 ?_
 unfold m224
 simp only [go_sem, qA, qB, qC, qD, qE, qF, qG, qH]
 repeat refine K ?_
 refine CA [] (specProgOk_ok p (by omega) (by omega) (fun b hb => by have := h3 b hb; omega)) ?_
 try simp only [go_sem, qA, qB, qC, qD, qE, qF, qG, qH]
 repeat refine K ?_
 cases hok : progOk p
 ·try simp only [go_sem, qA, qB, qC, qD, qE, qF, qG, qH, hok]
  repeat refine K ?_
  refine ⟨_, Sub.refl _, qC2 (by simp) ?_⟩; simp [-List.drop_one]
  simp [placeOf, hok]
 try simp only [go_sem, qA, qB, qC, qD, qE, qF, qG, qH, hok, w1]
 repeat refine K ?_
 refine CA [] (qAr k 0 (p.bods.length - 1)) ?_
 try simp only [go_sem, qA, qB, qC, qD, qE, qF, qG, qH]
 repeat refine K ?_
 cases hw : within k 0 (p.bods.length - 1)
 ·try simp only [go_sem, qA, qB, qC, qD, qE, qF, qG, qH, hw]
  repeat refine K ?_
  refine ⟨_, Sub.refl _, qC2 (by simp) ?_⟩; simp [-List.drop_one]
  simp [placeOf, hw]
 have hw' := within_iff.1 hw
 have hk : k.toNat < p.bods.length := by omega
 have hb := h3 _ (qAc p.bods k.toNat [] hk)
 have hres : placeOf p k at_ = placeAt (p.bods.getD k.toNat []) 0 0 at_ := by simp [placeOf, hok, hw]
 rw [hres]
 try simp only [go_sem, qA, qB, qC, qD, qE, qF, qG, qH, hw, qBp .bw p.bods k.toNat hk]
 repeat refine K ?_
 generalize p.bods.getD k.toNat [] = b at hb
 refine CA [] (l11Starts_ok b hb) ?_
 try simp only [go_sem, qA, qB, qC, qD, qE, qF, qG, qH]
 repeat refine K ?_
 have hsl : (startsN b (b.length + 1)).length = b.length + 1 := qBx b (b.length + 1)
 have w2 : IntKind.i64.wrap ((b.length + 1 : Nat) - 1 : Int) = b.length := by rw [qAl (by omega) (by omega)]; omega
 have hsn : (startsN b (b.length + 1)).getD b.length 0 = szB b := by rw [startsN_getD b (b.length + 1) b.length (by omega), List.take_length]
 have hz := szB_le b
 have w3 : IntKind.i64.wrap (szB b - 1) = szB b - 1 := qAl (by omega) (by omega)
 try simp only [go_sem, qA, qB, qC, qD, qE, qF, qG, qH, hsl, w2, qA0 (startsN b (b.length + 1)) b.length (by omega), hsn, w3]
 repeat refine K ?_
 refine CA [] (qAr at_ 0 (szB b - 1)) ?_
 try simp only [go_sem, qA, qB, qC, qD, qE, qF, qG, qH]
 repeat refine K ?_
 cases hin : within at_ 0 (szB b - 1)
 ·have ho := placeAt_out b 0 0 at_ (by apply Decidable.byContradiction; intro h; rw [show within at_ 0 (szB b - 1) = true from within_iff.2 (by omega)] at hin; simp at hin)
  try simp only [go_sem, qA, qB, qC, qD, qE, qF, qG, qH, hin]
  repeat refine K ?_
  refine ⟨_, Sub.refl _, qC2 (by simp) ?_⟩; simp [-List.drop_one]
  rw [ho]
  simp
 have hin' := within_iff.1 hin
 try simp only [go_sem, qA, qB, qC, qD, qE, qF, qG, qH, hin]
 repeat refine K ?_
 refine qA6 (ι := Nat) (fun i => .mk [(2, .int .i64 at_), (8, .ns 11 0 (b.length + 1)), (9, .int .i64 b.length), (10, .int .i64 i)] [(11, 1, ints (startsN b (b.length + 1)))] 12) (fun i => i ≤ b.length ∧ placeAt (b.drop i) (szB (b.take i)) i at_ = placeAt b 0 0 at_ ∧ szB (b.take i) ≤ at_) (fun i => b.length - i) 0 (by simp [szB]; omega) ?_ ?_
 ·refine Sub.shape [] id (by omega) ?_ ?_ ?_ ?_ <;> simp [qA3]
 ·rintro i ⟨hi, hp, hlo⟩
  simp only [go_sem, qA, qB, qC, qD, qE, qF, qG, qH]
  refine qA1 (fun hc => ?_) (fun hc => ?_)
  ·simp only [decide_eq_true_eq] at hc
   have hl' : i < b.length := by omega
   have hsg : (startsN b (b.length + 1)).getD i 0 = szB (b.take i) := startsN_getD b (b.length + 1) i (by omega)
   have hsg2 : (startsN b (b.length + 1)).getD (i + 1) 0 = szB (b.take (i + 1)) := startsN_getD b (b.length + 1) (i + 1) (by omega)
   have hs := placeAt_step b i hl' at_
   rw [hp] at hs
   simp only [go_sem, qA, qB, qC, qD, qE, qF, qG, qH, qA4 (i := i) (by omega), qA0 (startsN b (b.length + 1)) (i + 1) (by omega), hsg2, hsl]
   repeat refine K ?_
   refine qA1 (fun hc2 => ?_) (fun hc2 => ?_)
   ·simp only [decide_eq_true_eq] at hc2
    rw [if_pos (by omega)] at hs
    simp only [go_sem, qA, qB, qC, qD, qE, qF, qG, qH, qA0 (startsN b (b.length + 1)) i (by omega), hsg, hsl]
    repeat refine K ?_
    refine ⟨_, Sub.refl _, qC2 (by simp) ?_⟩; simp [-List.drop_one]
    rw [hs]
    simp
   ·simp only [decide_eq_false_iff_not] at hc2
    rw [if_neg (by omega)] at hs
    simp only [go_sem, qA, qB, qC, qD, qE, qF, qG, qH, qA4 (i := i) (by omega)]
    repeat refine K ?_
    refine qA5 (i + 1) (Sub.shape [] id (by omega) ?_ ?_ ?_ ?_) ?_ ?_
    any_goals (first | omega | (simp [qA3]; done))
    exact ⟨hl', hs.symm, by omega⟩
  ·simp only [decide_eq_false_iff_not] at hc
   rw [placeAt_end b i (by omega)] at hp
   simp only [go_sem, qA, qB, qC, qD, qE, qF, qG, qH]
   repeat refine K ?_
   refine ⟨_, Sub.refl _, qC2 (by simp) ?_⟩; simp [-List.drop_one]
   rw [← hp]
   simp
end Go.Sep
