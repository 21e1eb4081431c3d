/- Contracts of functions. -/
import Derived.Test.YtjbknbgdfhihcaaGreatFns
import Derived.Test.YtjbknbgdfhihcaaGreatQa0
import Derived.Test.YtjbknbgdfhihcaaGreatQd0
import Derived.Test.YtjbknbgdfhihcaaGreatQe0
import Derived.Test.YtjbknbgdfhihcaaGreatQf0
import Derived.Test.YtjbknbgdfhihcaaGreatQj0
import Derived.Test.YtjbknbgdfhihcaaGreatQt0
import Derived.Test.YtjbknbgdfhihcaaGreatQy0
import Derived.Test.YtjbknbgdfhihcaaGreatQa1
import Derived.Test.YtjbknbgdfhihcaaGreatQb1
import Derived.Test.YtjbknbgdfhihcaaGreatQc1
import Derived.Test.YtjbknbgdfhihcaaGreatQd1
import Derived.Test.YtjbknbgdfhihcaaGreatQe1
import Derived.Test.YtjbknbgdfhihcaaGreatQj1
import Derived.Test.YtjbknbgdfhihcaaGreatQt1
import Derived.Test.YtjbknbgdfhihcaaGreatQu1
namespace Go.Sep
open Go.Proofs
set_option linter.unusedSimpArgs false
set_option linter.unusedVariables false
set_option maxRecDepth 100000
open Nat renaming reduceAdd → qA, reduceMul → qB, reduceEqDiff → qC, reduceBEq → qD
open Int renaming reduceToNat → qE, reduceEq → qF, reduceLT → qG, reduceLE → qH
open List renaming getD_eq_getElem?_getD → gD

-- S2
def m202 : MFn := ⟨26, [.t 2], .seq (xr [xo 2 (.mv (.c (.bool false)))]) (.seq (.seq (xr [xo 3 (.mv (xi 0))]) (.blk 0 (.loop (.seq (.seq (xr [xv 4 3, xv 5 0, xo 6 (.len (.t 5)), xo 7 (.bin .lss (.t 4) (.t 6))]) (.cond 7 (.skip) (.exit 0))) (.seq (.blk 1 (.seq (xr [xv 10 0, xv 11 3, xo 12 (.iad 1 (.t 10) (.t 11)), xo 13 (.load 1 false (.t 12)), xo 14 (.call 64 [false, false, false] [.t 13, xi 1, xi 4]), xo 15 (.un .«not» (.t 14))]) (.cond 15 (.seq (xr [xo 2 (.mv (.c (.bool false)))]) (.ret)) (.skip)))) (xr [xv 8 3, xo 9 (.bin .add (.t 8) (xi 1)), xv 3 9])))))) (.seq (xr [xv 16 0, xo 17 (.len (.t 16)), xo 18 (.bin .leq (.t 17) (xi 24)), xv 19 18, xg 20 (.mv (.t 0)) 19 true, xg 21 (.mv (.t 0)) 19 true, xg 22 (.len (.t 21)) 19 true, xg 23 (.call 251 [false, false] [.t 20, .t 22]) 19 true, xg 24 (.bin .leq (.t 23) (xi 24)) 19 true, xo 25 (.pick (.t 19) (.t 24) (.c (.bool false))), xv 2 25]) (.ret)))⟩
theorem c202 : chkC Tryz.prog num Tryz.f155.ntmps m202.body ((Tryz.f155.body).getD .skip) = true := by kernel_rfl
def m206 : MFn := ⟨42, [.t 4], .seq (xr [xo 4 (.mv (xi 0))]) (.seq (.seq (xr [xv 9 1, xv 10 0, xo 11 (.len (.t 10)), xo 12 (.bin .sub (.t 11) (xi 1)), xo 13 (.call 59 [false, false, false] [.t 9, xi 0, .t 12]), xo 14 (.un .«not» (.t 13)), xv 15 14, xg 16 (.mv (.t 0)) 15 false, xg 17 (.call 68 [false] [.t 16]) 15 false, xg 18 (.un .«not» (.t 17)) 15 false, xo 19 (.pick (.t 15) (.c (.bool true)) (.t 18))]) (.cond 19 (.seq (xr [xo 4 (.mv (.c (.int .i64 (-1))))]) (.ret)) (.skip))) (.seq (xr [xo 5 (.mv (xi 0)), xo 6 (.mv (xi 0))]) (.seq (.seq (xr [xv 20 0, xo 21 (.len (.t 20)), xo 22 (.mv (xi 0))]) (.blk 0 (.loop (.seq (xr [xo 23 (.bin .lss (.t 22) (.t 21))]) (.seq (.cond 23 (.skip) (.exit 0)) (.seq (.blk 1 (.seq (xr [xv 24 22, xo 25 (.iad 1 (.t 20) (.t 22)), xo 26 (.load 1 false (.t 25)), xv 7 24, xv 8 26]) (.seq (.seq (xr [xv 27 7, xv 28 1, xo 29 (.bin .lss (.t 27) (.t 28))]) (.cond 29 (xr [xv 30 5, xv 31 8, xo 32 (.bin .add (.t 31) (xi 4)), xo 33 (.bin .add (.t 30) (.t 32)), xv 5 33]) (.skip))) (xr [xv 34 6, xv 35 8, xo 36 (.bin .add (.t 35) (xi 4)), xo 37 (.bin .add (.t 34) (.t 36)), xv 6 37])))) (xr [xo 38 (.bin .add (.t 22) (xi 1)), xv 22 38]))))))) (.seq (.seq (xr [xv 39 6, xo 40 (.bin .gtr (.t 39) (xi 24))]) (.cond 40 (.seq (xr [xo 4 (.mv (.c (.int .i64 (-1))))]) (.ret)) (.skip))) (.seq (xr [xv 41 5, xv 4 41]) (.ret))))))⟩
theorem c206 : chkC Tryz.prog num Tryz.f160.ntmps m206.body ((Tryz.f160.body).getD .skip) = true := by kernel_rfl
def m207 : MFn := ⟨24, [.t 2], .seq (xr [xo 2 (.mv (.c (.nil)))]) (.seq (xr [xo 7 (.mkSl [xz] 0 []), xv 3 7]) (.seq (xr [xo 4 (.mv (xi 0))]) (.seq (.seq (xr [xv 8 0, xo 9 (.len (.t 8)), xo 10 (.mv (xi 0))]) (.blk 0 (.loop (.seq (xr [xo 11 (.bin .lss (.t 10) (.t 9))]) (.seq (.cond 11 (.skip) (.exit 0)) (.seq (.blk 1 (.seq (xr [xo 12 (.iad 5 (.t 8) (.t 10)), xo 13 (.load 5 true (.t 12)), xo 6 (.alloc [xz, xz, xz, xz, xz]), ⟨none, .store 5 (.t 6) (.t 13), none⟩]) (.seq (xr [xv 14 3, xv 15 4, xo 16 (.mkSl [xz] 1 [(0, .t 15)]), xo 17 (.app 1 8 (.t 14) (.t 16)), xv 3 17]) (xr [xv 18 4, xo 19 (.load 5 true (.t 6)), xo 20 (.call 262 [false] [.t 19]), xo 21 (.bin .add (.t 18) (.t 20)), xv 4 21])))) (xr [xo 22 (.bin .add (.t 10) (xi 1)), xv 10 22]))))))) (.seq (xr [xv 23 3, xv 2 23]) (.ret)))))⟩
theorem c207 : chkC Tryz.prog num Tryz.f161.ntmps m207.body ((Tryz.f161.body).getD .skip) = true := by kernel_rfl
def m251 : MFn := ⟨20, [.t 4], .seq (xr [xo 4 (.mv (xi 0))]) (.seq (xr [xo 5 (.mv (xi 0))]) (.seq (.seq (xr [xo 6 (.mv (xi 0))]) (.blk 0 (.loop (.seq (.seq (xr [xv 7 6, xv 8 1, xo 9 (.bin .lss (.t 7) (.t 8))]) (.cond 9 (.skip) (.exit 0))) (.seq (.blk 1 (xr [xv 12 5, xv 13 0, xv 14 6, xo 15 (.iad 1 (.t 13) (.t 14)), xo 16 (.load 1 false (.t 15)), xo 17 (.bin .add (.t 12) (.t 16)), xo 18 (.bin .add (.t 17) (xi 4)), xv 5 18])) (xr [xv 10 6, xo 11 (.bin .add (.t 10) (xi 1)), xv 6 11])))))) (.seq (xr [xv 19 5, xv 4 19]) (.ret))))⟩
theorem c251 : chkC Tryz.prog num Tryz.f207.ntmps m251.body ((Tryz.f207.body).getD .skip) = true := by kernel_rfl
def m252 : MFn := ⟨26, [.t 2], .seq (xr [xo 2 (.mv (.c (.nil)))]) (.seq (xr [xo 5 (.mkSl [xz] 1 [(0, xi 0)]), xv 3 5]) (.seq (.seq (xr [xo 4 (.mv (xi 0))]) (.blk 0 (.loop (.seq (.seq (xr [xv 6 4, xv 7 0, xo 8 (.len (.t 7)), xo 9 (.bin .lss (.t 6) (.t 8))]) (.cond 9 (.skip) (.exit 0))) (.seq (.blk 1 (.dreg (.take 0 (xv 12 3) (.take 1 (xv 13 3) (.take 2 (xv 14 4) (.take 5 (xv 17 0) (.take 6 (xv 18 4) (.both 3 [1, 2] (xo 15 (.iad 1 (.t 13) (.t 14))) (.both 4 [3, 1, 2] (xo 16 (.load 1 false (.t 15))) (.only 7 [5, 6] (xo 19 (.iad 5 (.t 17) (.t 18))) (.only 8 [7, 5, 6] (xo 20 (.load 5 true (.t 19))) (.only 9 [8, 7, 5, 6] (xo 21 (.call 285 [false] [.t 20])) (.only 10 [4, 9, 3, 8, 1, 2, 7, 5, 6] (xo 22 (.bin .add (.t 16) (.t 21))) (.only 11 [10, 4, 9, 3, 8, 1, 2, 7, 5, 6] (xo 23 (.mkSl [xz] 1 [(0, .t 22)])) (.only 12 [0, 9, 11, 8, 10, 7, 4, 5, 6, 3, 1, 2] (xo 24 (.app 1 8 (.t 12) (.t 23))) (.only 13 [0, 1, 2, 5, 6] (xv 3 24) (.done)))))))) 7 [5, 6] (xo 19 (.iad 5 (.t 17) (.t 18))) (.both 4 [3, 1, 2] (xo 16 (.load 1 false (.t 15))) (.only 8 [7, 5, 6] (xo 20 (.load 5 true (.t 19))) (.only 9 [8, 7, 5, 6] (xo 21 (.call 285 [false] [.t 20])) (.only 10 [4, 9, 3, 8, 1, 2, 7, 5, 6] (xo 22 (.bin .add (.t 16) (.t 21))) (.only 11 [10, 4, 9, 3, 8, 1, 2, 7, 5, 6] (xo 23 (.mkSl [xz] 1 [(0, .t 22)])) (.only 12 [0, 9, 11, 8, 10, 7, 4, 5, 6, 3, 1, 2] (xo 24 (.app 1 8 (.t 12) (.t 23))) (.only 13 [0, 1, 2, 5, 6] (xv 3 24) (.done))))))) 8 [7, 5, 6] (xo 20 (.load 5 true (.t 19))) (.both 4 [3, 1, 2] (xo 16 (.load 1 false (.t 15))) (.only 9 [8, 7, 5, 6] (xo 21 (.call 285 [false] [.t 20])) (.only 10 [4, 9, 3, 8, 1, 2, 7, 5, 6] (xo 22 (.bin .add (.t 16) (.t 21))) (.only 11 [10, 4, 9, 3, 8, 1, 2, 7, 5, 6] (xo 23 (.mkSl [xz] 1 [(0, .t 22)])) (.only 12 [0, 9, 11, 8, 10, 7, 4, 5, 6, 3, 1, 2] (xo 24 (.app 1 8 (.t 12) (.t 23))) (.only 13 [0, 1, 2, 5, 6] (xv 3 24) (.done)))))) 9 [8, 7, 5, 6] (xo 21 (.call 285 [false] [.t 20])) (.only 4 [3, 1, 2] (xo 16 (.load 1 false (.t 15))) (.only 10 [4, 9, 3, 8, 1, 2, 7, 5, 6] (xo 22 (.bin .add (.t 16) (.t 21))) (.only 11 [10, 4, 9, 3, 8, 1, 2, 7, 5, 6] (xo 23 (.mkSl [xz] 1 [(0, .t 22)])) (.only 12 [0, 9, 11, 8, 10, 7, 4, 5, 6, 3, 1, 2] (xo 24 (.app 1 8 (.t 12) (.t 23))) (.only 13 [0, 1, 2, 5, 6] (xv 3 24) (.done))))))))) 7 [5, 6] (xo 19 (.iad 5 (.t 17) (.t 18))) (.both 3 [1, 2] (xo 15 (.iad 1 (.t 13) (.t 14))) (.both 4 [3, 1, 2] (xo 16 (.load 1 false (.t 15))) (.only 8 [7, 5, 6] (xo 20 (.load 5 true (.t 19))) (.only 9 [8, 7, 5, 6] (xo 21 (.call 285 [false] [.t 20])) (.only 10 [4, 9, 3, 8, 1, 2, 7, 5, 6] (xo 22 (.bin .add (.t 16) (.t 21))) (.only 11 [10, 4, 9, 3, 8, 1, 2, 7, 5, 6] (xo 23 (.mkSl [xz] 1 [(0, .t 22)])) (.only 12 [0, 9, 11, 8, 10, 7, 4, 5, 6, 3, 1, 2] (xo 24 (.app 1 8 (.t 12) (.t 23))) (.only 13 [0, 1, 2, 5, 6] (xv 3 24) (.done))))))) 8 [7, 5, 6] (xo 20 (.load 5 true (.t 19))) (.both 4 [3, 1, 2] (xo 16 (.load 1 false (.t 15))) (.only 9 [8, 7, 5, 6] (xo 21 (.call 285 [false] [.t 20])) (.only 10 [4, 9, 3, 8, 1, 2, 7, 5, 6] (xo 22 (.bin .add (.t 16) (.t 21))) (.only 11 [10, 4, 9, 3, 8, 1, 2, 7, 5, 6] (xo 23 (.mkSl [xz] 1 [(0, .t 22)])) (.only 12 [0, 9, 11, 8, 10, 7, 4, 5, 6, 3, 1, 2] (xo 24 (.app 1 8 (.t 12) (.t 23))) (.only 13 [0, 1, 2, 5, 6] (xv 3 24) (.done)))))) 9 [8, 7, 5, 6] (xo 21 (.call 285 [false] [.t 20])) (.only 4 [3, 1, 2] (xo 16 (.load 1 false (.t 15))) (.only 10 [4, 9, 3, 8, 1, 2, 7, 5, 6] (xo 22 (.bin .add (.t 16) (.t 21))) (.only 11 [10, 4, 9, 3, 8, 1, 2, 7, 5, 6] (xo 23 (.mkSl [xz] 1 [(0, .t 22)])) (.only 12 [0, 9, 11, 8, 10, 7, 4, 5, 6, 3, 1, 2] (xo 24 (.app 1 8 (.t 12) (.t 23))) (.only 13 [0, 1, 2, 5, 6] (xv 3 24) (.done)))))))) 8 [7, 5, 6] (xo 20 (.load 5 true (.t 19))) (.both 3 [1, 2] (xo 15 (.iad 1 (.t 13) (.t 14))) (.both 4 [3, 1, 2] (xo 16 (.load 1 false (.t 15))) (.only 9 [8, 7, 5, 6] (xo 21 (.call 285 [false] [.t 20])) (.only 10 [4, 9, 3, 8, 1, 2, 7, 5, 6] (xo 22 (.bin .add (.t 16) (.t 21))) (.only 11 [10, 4, 9, 3, 8, 1, 2, 7, 5, 6] (xo 23 (.mkSl [xz] 1 [(0, .t 22)])) (.only 12 [0, 9, 11, 8, 10, 7, 4, 5, 6, 3, 1, 2] (xo 24 (.app 1 8 (.t 12) (.t 23))) (.only 13 [0, 1, 2, 5, 6] (xv 3 24) (.done)))))) 9 [8, 7, 5, 6] (xo 21 (.call 285 [false] [.t 20])) (.only 4 [3, 1, 2] (xo 16 (.load 1 false (.t 15))) (.only 10 [4, 9, 3, 8, 1, 2, 7, 5, 6] (xo 22 (.bin .add (.t 16) (.t 21))) (.only 11 [10, 4, 9, 3, 8, 1, 2, 7, 5, 6] (xo 23 (.mkSl [xz] 1 [(0, .t 22)])) (.only 12 [0, 9, 11, 8, 10, 7, 4, 5, 6, 3, 1, 2] (xo 24 (.app 1 8 (.t 12) (.t 23))) (.only 13 [0, 1, 2, 5, 6] (xv 3 24) (.done))))))) 9 [8, 7, 5, 6] (xo 21 (.call 285 [false] [.t 20])) (.only 3 [1, 2] (xo 15 (.iad 1 (.t 13) (.t 14))) (.only 4 [3, 1, 2] (xo 16 (.load 1 false (.t 15))) (.only 10 [4, 9, 3, 8, 1, 2, 7, 5, 6] (xo 22 (.bin .add (.t 16) (.t 21))) (.only 11 [10, 4, 9, 3, 8, 1, 2, 7, 5, 6] (xo 23 (.mkSl [xz] 1 [(0, .t 22)])) (.only 12 [0, 9, 11, 8, 10, 7, 4, 5, 6, 3, 1, 2] (xo 24 (.app 1 8 (.t 12) (.t 23))) (.only 13 [0, 1, 2, 5, 6] (xv 3 24) (.done))))))))))))))))) (xr [xv 10 4, xo 11 (.bin .add (.t 10) (xi 1)), xv 4 11])))))) (.seq (xr [xv 25 3, xv 2 25]) (.ret))))⟩
theorem c252 : chkC Tryz.prog num Tryz.f208.ntmps m252.body ((Tryz.f208.body).getD .skip) = true := by kernel_rfl
def m257 : MFn := ⟨19, [.t 4], .seq (xr [xo 4 (.mv (xi 0))]) (.seq (.seq (xr [xv 5 0, xo 6 (.call 202 [false] [.t 5]), xo 7 (.un .«not» (.t 6)), xv 8 7, xg 9 (.mv (.t 1)) 8 false, xg 10 (.mv (.t 0)) 8 false, xg 11 (.len (.t 10)) 8 false, xg 12 (.bin .sub (.t 11) (xi 1)) 8 false, xg 13 (.call 64 [false, false, false] [.t 9, xi 0, .t 12]) 8 false, xg 14 (.un .«not» (.t 13)) 8 false, xo 15 (.pick (.t 8) (.c (.bool true)) (.t 14))]) (.cond 15 (.seq (xr [xo 4 (.mv (.c (.int .i64 (-1))))]) (.ret)) (.skip))) (.seq (xr [xv 16 0, xv 17 1, xo 18 (.call 251 [false, false] [.t 16, .t 17]), xv 4 18]) (.ret)))⟩
theorem c257 : chkC Tryz.prog num Tryz.f172.ntmps m257.body ((Tryz.f172.body).getD .skip) = true := by kernel_rfl
theorem ints_snoc' (l : List Int) (a : Int) : ints l ++ [[.int .i64 a]] = ints (l ++ [a]) := by simp [ints]
theorem sumC_app : ∀ (a b : List Int), sumC (a ++ b) = sumC a + sumC b
  | [], b => by simp [sumC]
  | x :: a, b => by simp only [List.cons_append, sumC, sumC_app a b]; omega
theorem sumC_take (l : List Int) (i : Nat) (h : i < l.length) : sumC (l.take (i + 1)) = sumC (l.take i) + (l.getD i 0) + 4 := by
  rw [take_snoc l 0 i h, sumC_app]
  simp only [sumC]
  omega
theorem capsOk_sum : ∀ {l : List Int}, capsOk l = true → 5 * (l.length : Int) ≤ sumC l ∧ sumC l ≤ 8 * l.length
  | [], _ => by simp [sumC]
  | c :: l, h => by
    unfold capsOk at h
    rw [List.all_cons, Bool.and_eq_true] at h
    have ih := capsOk_sum (l := l) h.2
    have := within_iff.1 h.1
    simp only [sumC, List.length_cons]
    omega
theorem capsOk_take {l : List Int} (h : capsOk l = true) (i : Nat) : capsOk (l.take i) = true := by
  unfold capsOk at *
  rw [List.all_eq_true] at *
  exact fun x hx => h x (List.mem_of_mem_take hx)
theorem sumC_take_le {l : List Int} (h : capsOk l = true) (i : Nat) : 0 ≤ sumC (l.take i) ∧ sumC (l.take i) ≤ sumC l ∧ sumC (l.take i) ≤ 8 * l.length := by
  have h1 := capsOk_sum (capsOk_take h i)
  have h2 : capsOk (l.drop i) = true := by
    unfold capsOk at *
    rw [List.all_eq_true] at *
    exact fun x hx => h x (List.mem_of_mem_drop hx)
  have h3 := capsOk_sum h2
  have e : sumC l = sumC (l.take i) + sumC (l.drop i) := by rw [← sumC_app, List.take_append_drop]
  have h4 : (l.take i).length ≤ l.length := by simp; omega
  omega
theorem base_range {caps : List Int} {n : Int} (h : ¬ base caps n < 0) : 0 ≤ n ∧ n.toNat < caps.length ∧ lieOk caps = true ∧ 0 ≤ base caps n ∧ base caps n + caps.getD n.toNat 0 + 4 ≤ 24 ∧ within (caps.getD n.toNat 0) 1 4 = true := by
  unfold base at *
  split at h
  · rename_i hc
    rw [if_pos hc]
    simp only [Bool.and_eq_true, within_iff] at hc
    have hn : n.toNat < caps.length := by omega
    have hl := hc.2
    unfold lieOk at hl
    simp only [Bool.and_eq_true, decide_eq_true_eq] at hl
    have h1 := sumC_take_le hl.1 n.toNat
    have h2 := sumC_take_le hl.1 (n.toNat + 1)
    have h3 := sumC_take caps n.toNat hn
    refine ⟨by omega, hn, hc.2, by omega, by omega, ?_⟩
    have := hl.1
    unfold capsOk at this
    rw [List.all_eq_true] at this
    exact this _ (getD_mem caps n.toNat 0 hn)
  · simp at h
/-- The steps of places, and where they begin. -/
def szB : List Ins → Int
  | [] => 0
  | x :: l => emitSize x + szB l
theorem szB_app : ∀ (a b : List Ins), szB (a ++ b) = szB a + szB b
  | [], b => by simp [szB]
  | x :: a, b => by simp only [List.cons_append, szB, szB_app a b]; omega
theorem szB_take (l : List Ins) (i : Nat) (h : i < l.length) : szB (l.take (i + 1)) = szB (l.take i) + emitSize (l.getD i default) := by
  rw [take_snoc l default i h, szB_app]
  simp [szB]
theorem emitSize_le (x : Ins) : 0 ≤ emitSize x ∧ emitSize x ≤ 32 := by
  unfold emitSize numb
  repeat' split
  all_goals omega
theorem szB_le : ∀ (l : List Ins), 0 ≤ szB l ∧ szB l ≤ 32 * l.length
  | [] => by simp [szB]
  | x :: l => by
    have := szB_le l
    have := emitSize_le x
    simp only [szB, List.length_cons]
    omega
theorem szB_take_le (l : List Ins) (i : Nat) : 0 ≤ szB (l.take i) ∧ szB (l.take i) ≤ 32 * l.length := by
  have h1 := szB_le (l.take i)
  have h4 : (l.take i).length ≤ l.length := by simp; omega
  omega
def startsN (b : List Ins) (n : Nat) : List Int := (List.range n).map fun i => szB (b.take i)
theorem startsN_length (b : List Ins) (n : Nat) : (startsN b n).length = n := by simp [startsN]
theorem startsN_succ (b : List Ins) (n : Nat) : startsN b (n + 1) = startsN b n ++ [szB (b.take n)] := by simp [startsN, List.range_succ]
theorem startsN_getD (b : List Ins) (n i : Nat) (h : i < n) : (startsN b n).getD i 0 = szB (b.take i) := by simp [startsN, List.getD_eq_getElem?_getD, h]
theorem startsN_take (b : List Ins) (n m : Nat) (h : m ≤ n) : (startsN b n).take m = startsN b m := by
  apply List.ext_getElem (by simp [startsN]; omega)
  intro i h1 h2
  simp [startsN]
def startsOf (b : List Ins) : List Int := startsN b b.length
/-- The one step of a place that is of no channel. -/
def single (x : Ins) (starts : List Int) : Step :=
  if x.op = 1 then ⟨1, x.r, 0, 0, x.n⟩ else if x.op = 2 then ⟨2, x.r, x.a, x.b, 0⟩ else if x.op = 3 then ⟨3, x.r, x.a, x.b, 0⟩ else if x.op = 4 then ⟨4, x.r, x.a, x.b, 0⟩
  else if x.op = 10 then ⟨9, 0, x.a, 0, 0⟩ else if x.op = 11 then ⟨10, 0, 0, 0, starts.getD x.n.toNat 0⟩ else if x.op = 12 then ⟨11, 0, x.a, 0, starts.getD x.n.toNat 0⟩ else ⟨12, 0, 0, 0, 0⟩
def emit (caps : List Int) (x : Ins) (f : Int) (starts : List Int) : List Step :=
  if insOk x starts.length caps.length then
    if within x.op 5 9 then
      if base caps x.n < 0 then []
      else lockL f (base caps x.n) ++ (if x.op = 5 ∨ x.op = 7 then sendL f (base caps x.n) (caps.getD x.n.toNat 0) x else if x.op = 6 ∨ x.op = 8 then takeL f (base caps x.n) (caps.getD x.n.toNat 0) x else closeL f (base caps x.n))
    else [single x starts]
  else []
theorem emit_len (caps : List Int) (x : Ins) (f : Int) (starts : List Int) : (emit caps x f starts).length ≤ 40 := by
  unfold emit
  repeat' split
  all_goals simp [lockL, sendL, takeL, closeL, shutL, letL]
  all_goals (try split)
  all_goals simp
/-- The code of a body, up to a place. -/
def compN (caps : List Int) (b : List Ins) : Nat → List Step
  | 0 => []
  | i + 1 => compN caps b i ++ emit caps (b.getD i default) (szB (b.take i)) (startsOf b)
def comp (caps : List Int) (b : List Ins) : List Step := compN caps b b.length
theorem compN_len (caps : List Int) (b : List Ins) : ∀ i, (compN caps b i).length ≤ 40 * i
  | 0 => by simp [compN]
  | i + 1 => by
    have := compN_len caps b i
    have := emit_len caps (b.getD i default) (szB (b.take i)) (startsOf b)
    simp only [compN, List.length_append]
    omega
theorem progOk_caps {p : Prog} (h : progOk p = true) : capsOk p.caps = true ∧ p.caps.length ≤ 3 ∧ p.bods.length ≤ 4 ∧ 1 ≤ p.bods.length ∧ ∀ b ∈ p.bods, bodyOk b p.caps.length = true := by
  unfold progOk at h
  simp only [Bool.and_eq_true, within_iff, decide_eq_true_eq, List.all_eq_true] at h
  exact ⟨h.1.2, by omega, by omega, by omega, h.1.1.1⟩
theorem base0_neg {p : Prog} (h : progOk p = true) : (decide (0 < (p.caps.length : Int)) && decide (base p.caps 0 < 0)) = !lieOk p.caps := by
  have hc := (progOk_caps h).1
  cases hl : lieOk p.caps with
  | false =>
    have hlen : 0 < p.caps.length := by
      apply Nat.pos_of_ne_zero
      intro e
      have e' : p.caps = [] := List.eq_nil_of_length_eq_zero e
      unfold lieOk at hl
      rw [hc, e'] at hl
      simp [sumC] at hl
    have hb : base p.caps 0 = -1 := by unfold base; rw [hl, Bool.and_false]; rfl
    rw [hb]
    simp
    omega
  | true =>
    by_cases hlen : 0 < p.caps.length
    · have hb : base p.caps 0 = 0 := by
        unfold base
        have hw : within 0 0 ((p.caps.length : Int) - 1) = true := by rw [within_iff]; omega
        rw [hl, hw]
        rfl
      rw [hb]
      simp
    · simp; omega

-- S2
theorem take_min (l : List Int) (i n : Nat) (h : i < n) : l.take (min (i + 1) n) = l.take (i + 1) ∧ l.take (min i n) = l.take i := by
  rw [Nat.min_eq_left (by omega), Nat.min_eq_left (by omega)]
  exact ⟨rfl, rfl⟩
set_option maxHeartbeats 2000000 in
theorem implBase_ok (caps : List Int) (n : Int) (hl : caps.length < 2 ^ 40) : CallOk Tryz.prog num 206 [.sl .bw 1 (ints caps), .int .i64 n] [] (.int .i64 (base caps n)) := by
  refine enter (m := m206) (f := 206) (fn := Tryz.f160) Tryz.func160 (by kernel_rfl) rfl c206 rfl (by simp [Tryz.f160]) (by simp [bnds, bnd, nf_sl, nf_int, nf_bool, nf_str, ints_bnd]) (fun _ _ h => by simp [preH, look] at h) ?_
  unfold m206
  have w1 : IntKind.i64.wrap ((caps.length : Int) - 1) = caps.length - 1 := wrap64 (by omega) (by omega)
  simp only [go_sem, qA, qB, qC, qD, qE, qF, qG, qH, w1]
  repeat refine K ?_
  refine CA [] (within_ok n 0 (caps.length - 1)) ?_
  try simp only [go_sem, qA, qB, qC, qD, qE, qF, qG, qH]
  repeat refine K ?_
  cases hw : within n 0 (caps.length - 1)
  · try simp only [go_sem, qA, qB, qC, qD, qE, qF, qG, qH, hw]
    repeat refine K ?_
    refine ⟨_, Sub.refl _, ?_⟩; simp [FinS, nilL, nilV, oneOr, -List.drop_one]
    simp [base, hw]
  try simp only [go_sem, qA, qB, qC, qD, qE, qF, qG, qH, hw]
  repeat refine K ?_
  refine CA [] (capsOk_ok caps (by omega)) ?_
  try simp only [go_sem, qA, qB, qC, qD, qE, qF, qG, qH]
  repeat refine K ?_
  cases hk : capsOk caps
  · try simp only [go_sem, qA, qB, qC, qD, qE, qF, qG, qH, hk]
    repeat refine K ?_
    refine ⟨_, Sub.refl _, ?_⟩; simp [FinS, nilL, nilV, oneOr, -List.drop_one]
    simp [base, lieOk, hk]
  try simp only [go_sem, qA, qB, qC, qD, qE, qF, qG, qH, hk]
  repeat refine K ?_
  have hw' := within_iff.1 hw
  refine loop_intro (ι := Nat) (fun i => .mk [(1, .int .i64 n), (5, .int .i64 (sumC (caps.take (min i n.toNat)))), (6, .int .i64 (sumC (caps.take i))), (20, .sl .bw 1 (ints caps)), (21, .int .i64 caps.length), (22, .int .i64 i)] [] 10) (fun i => i ≤ caps.length) (fun i => caps.length - i) 0 (by simp) ?_ ?_
  · refine Sub.shape [] id (by omega) ?_ ?_ ?_ ?_ <;> simp [ints_rep]
    simp [sumC]
  · intro i hi
    simp only [go_sem, qA, qB, qC, qD, qE, qF, qG, qH]
    refine branch_intro (fun hc => ?_) (fun hc => ?_)
    · simp only [decide_eq_true_eq] at hc
      have hl' : i < caps.length := by omega
      have h1 := sumC_take_le hk i
      have h2 := sumC_take_le hk (i + 1)
      have h3 := sumC_take caps i hl'
      have h4 := sumC_take_le hk (min i n.toNat)
      have q1 : IntKind.i64.wrap (caps.getD i 0 + 4) = caps.getD i 0 + 4 := wrap64 (by omega) (by omega)
      have q2 : IntKind.i64.wrap (sumC (caps.take i) + (caps.getD i 0 + 4)) = sumC (caps.take (i + 1)) := by rw [wrap64 (by omega) (by omega)]; omega
      simp only [go_sem, qA, qB, qC, qD, qE, qF, qG, qH, ints_getD caps i hl']
      repeat refine K ?_
      refine branch_intro (fun hc2 => ?_) (fun hc2 => ?_)
      · simp only [decide_eq_true_eq] at hc2
        obtain ⟨e1, e2⟩ := take_min caps i n.toNat (by omega)
        simp only [go_sem, qA, qB, qC, qD, qE, qF, qG, qH, q1, q2, e2, wrap_succ (i := i) (by omega)]
        repeat refine K ?_
        refine back_intro (i + 1) (Sub.shape [] id (by omega) ?_ ?_ ?_ ?_) ?_ ?_
        any_goals (first | omega | (simp [ints_rep]; done))
        rw [e1]
        simp [ints_rep]
      · simp only [decide_eq_false_iff_not] at hc2
        have e1 : min (i + 1) n.toNat = min i n.toNat := by omega
        simp only [go_sem, qA, qB, qC, qD, qE, qF, qG, qH, q1, q2, wrap_succ (i := i) (by omega)]
        repeat refine K ?_
        refine back_intro (i + 1) (Sub.shape [] id (by omega) ?_ ?_ ?_ ?_) ?_ ?_
        any_goals (first | omega | (simp [ints_rep]; done))
        rw [e1]
        simp [ints_rep]
    · simp only [decide_eq_false_iff_not] at hc
      have he : caps.take i = caps := List.take_of_length_le (by omega)
      have hm : min i n.toNat = n.toNat := by omega
      simp only [go_sem, qA, qB, qC, qD, qE, qF, qG, qH, he, hm]
      repeat refine K ?_
      by_cases h24 : (24 : Int) < sumC caps
      · try simp only [go_sem, qA, qB, qC, qD, qE, qF, qG, qH, h24]
        repeat refine K ?_
        refine ⟨_, Sub.refl _, ?_⟩; simp [FinS, nilL, nilV, oneOr, -List.drop_one]
        have : ¬ sumC caps ≤ 24 := by omega
        simp [base, hw, lieOk, hk, this]
      · try simp only [go_sem, qA, qB, qC, qD, qE, qF, qG, qH, h24]
        repeat refine K ?_
        refine ⟨_, Sub.refl _, ?_⟩; simp [FinS, nilL, nilV, oneOr, -List.drop_one]
        have : sumC caps ≤ 24 := by omega
        simp [base, hw, lieOk, hk, this]
theorem l9Base_ok (caps : List Int) (n : Nat) (hl : caps.length < 2 ^ 40) (hk : capsOk caps = true) (hn : n ≤ caps.length) : CallOk Tryz.prog num 251 [.sl .bw 1 (ints caps), .int .i64 n] [] (.int .i64 (sumC (caps.take n))) := by
  refine enter (m := m251) (f := 251) (fn := Tryz.f207) Tryz.func207 (by kernel_rfl) rfl c251 rfl (by simp [Tryz.f207]) (by simp [bnds, bnd, nf_sl, nf_int, nf_bool, nf_str, ints_bnd]) (fun _ _ h => by simp [preH, look] at h) ?_
  unfold m251
  simp only [go_sem, qA, qB, qC, qD, qE, qF, qG, qH]
  repeat refine K ?_
  refine loop_intro (ι := Nat) (fun i => .mk [(0, .sl .bw 1 (ints caps)), (1, .int .i64 n), (5, .int .i64 (sumC (caps.take i))), (6, .int .i64 i)] [] 10) (fun i => i ≤ n) (fun i => n - i) 0 (by simp) ?_ ?_
  · refine Sub.shape [] id (by omega) ?_ ?_ ?_ ?_ <;> simp [ints_rep]
    simp [sumC]
  · intro i hi
    simp only [go_sem, qA, qB, qC, qD, qE, qF, qG, qH]
    refine branch_intro (fun hc => ?_) (fun hc => ?_)
    · simp only [decide_eq_true_eq] at hc
      have hl' : i < caps.length := by omega
      have h1 := sumC_take_le hk i
      have h2 := sumC_take_le hk (i + 1)
      have h3 := sumC_take caps i hl'
      have q1 : IntKind.i64.wrap (sumC (caps.take i) + caps.getD i 0) = sumC (caps.take i) + caps.getD i 0 := wrap64 (by omega) (by omega)
      have q2 : IntKind.i64.wrap (sumC (caps.take i) + caps.getD i 0 + 4) = sumC (caps.take (i + 1)) := by rw [wrap64 (by omega) (by omega)]; omega
      simp only [go_sem, qA, qB, qC, qD, qE, qF, qG, qH, ints_getD caps i hl', q1, q2, wrap_succ (i := i) (by omega)]
      repeat refine K ?_
      refine back_intro (i + 1) (Sub.shape [] id (by omega) ?_ ?_ ?_ ?_) ?_ ?_
      any_goals (first | omega | (simp [ints_rep]; done))
    · simp only [decide_eq_false_iff_not] at hc
      have he : i = n := by omega
      subst he
      simp only [go_sem, qA, qB, qC, qD, qE, qF, qG, qH]
      repeat refine K ?_
      refine ⟨_, Sub.refl _, ?_⟩; simp [FinS, nilL, nilV, oneOr, -List.drop_one]
theorem l9Right_ok (caps : List Int) (hl : caps.length < 2 ^ 40) : CallOk Tryz.prog num 202 [.sl .bw 1 (ints caps)] [] (.bool (lieOk caps)) := by
  refine enter (m := m202) (f := 202) (fn := Tryz.f155) Tryz.func155 (by kernel_rfl) rfl c202 rfl (by simp [Tryz.f155]) (by simp [bnds, bnd, nf_sl, nf_int, nf_bool, nf_str, ints_bnd]) (fun _ _ h => by simp [preH, look] at h) ?_
  unfold m202
  simp only [go_sem, qA, qB, qC, qD, qE, qF, qG, qH]
  repeat refine K ?_
  refine loop_intro (ι := Nat) (fun i => .mk [(0, .sl .bw 1 (ints caps)), (3, .int .i64 i)] [] 10) (fun i => i ≤ caps.length ∧ (caps.take i).all (fun c => within c 1 4) = true) (fun i => caps.length - i) 0 (by simp) ?_ ?_
  · refine Sub.shape [] id (by omega) ?_ ?_ ?_ ?_ <;> simp [ints_rep]
  · rintro i ⟨hi, hp⟩
    simp only [go_sem, qA, qB, qC, qD, qE, qF, qG, qH]
    refine branch_intro (fun hc => ?_) (fun hc => ?_)
    · simp only [decide_eq_true_eq] at hc
      have hl' : i < caps.length := by omega
      simp only [go_sem, qA, qB, qC, qD, qE, qF, qG, qH, ints_getD caps i hl']
      repeat refine K ?_
      refine CA [] (l1In_ok (caps.getD i 0) 1 4) ?_
      try simp only [go_sem, qA, qB, qC, qD, qE, qF, qG, qH]
      repeat refine K ?_
      cases hw : within (caps.getD i 0) 1 4
      · simp only [go_sem, qA, qB, qC, qD, qE, qF, qG, qH, hw]
        repeat refine K ?_
        refine ⟨_, Sub.refl _, ?_⟩; simp [FinS, nilL, nilV, oneOr, -List.drop_one]
        have : capsOk caps = false := all_stop hl' hw
        simp [lieOk, this]
      · simp only [go_sem, qA, qB, qC, qD, qE, qF, qG, qH, hw, wrap_succ (i := i) (by omega)]
        repeat refine K ?_
        refine back_intro (i + 1) (Sub.shape [] id (by omega) ?_ ?_ ?_ ?_) ?_ ?_
        any_goals (first | omega | (simp [ints_rep]; done))
        exact ⟨hl', all_step hp hl' hw⟩
    · simp only [decide_eq_false_iff_not] at hc
      have hk : capsOk caps = true := all_end hp hc
      have hs := capsOk_sum hk
      simp only [go_sem, qA, qB, qC, qD, qE, qF, qG, qH]
      repeat refine K ?_
      by_cases h24 : (caps.length : Int) ≤ 24
      · try simp only [go_sem, qA, qB, qC, qD, qE, qF, qG, qH, h24]
        repeat refine K ?_
        refine CA [] (l9Base_ok caps caps.length hl hk (Nat.le_refl _)) ?_
        try simp only [go_sem, qA, qB, qC, qD, qE, qF, qG, qH]
        repeat refine K ?_
        try simp only [go_sem, qA, qB, qC, qD, qE, qF, qG, qH, h24, List.take_length]
        repeat refine K ?_
        refine ⟨_, Sub.refl _, ?_⟩; simp [FinS, nilL, nilV, oneOr, -List.drop_one]
        simp [lieOk, hk]
      · try simp only [go_sem, qA, qB, qC, qD, qE, qF, qG, qH, h24]
        repeat refine K ?_
        refine ⟨_, Sub.refl _, ?_⟩; simp [FinS, nilL, nilV, oneOr, -List.drop_one]
        have : ¬ sumC caps ≤ 24 := by omega
        simp [lieOk, this]
theorem specBase_ok (caps : List Int) (n : Int) (hl : caps.length < 2 ^ 40) : CallOk Tryz.prog num 257 [.sl .bw 1 (ints caps), .int .i64 n] [] (.int .i64 (base caps n)) := by
  have w1 : IntKind.i64.wrap ((caps.length : Int) - 1) = caps.length - 1 := wrap64 (by omega) (by omega)
  refine enter (m := m257) (f := 257) (fn := Tryz.f172) Tryz.func172 (by kernel_rfl) rfl c257 rfl (by simp [Tryz.f172]) (by simp [bnds, bnd, nf_sl, nf_int, nf_bool, nf_str, ints_bnd]) (fun _ _ h => by simp [preH, look] at h) ?_
  unfold m257
  simp only [go_sem, qA, qB, qC, qD, qE, qF, qG, qH]
  repeat refine K ?_
  refine CA [] (l9Right_ok caps hl) ?_
  try simp only [go_sem, qA, qB, qC, qD, qE, qF, qG, qH]
  repeat refine K ?_
  cases hk : lieOk caps
  · try simp only [go_sem, qA, qB, qC, qD, qE, qF, qG, qH, hk, w1]
    repeat refine K ?_
    refine ⟨_, Sub.refl _, ?_⟩; simp [FinS, nilL, nilV, oneOr, -List.drop_one]
    simp [base, hk]
  try simp only [go_sem, qA, qB, qC, qD, qE, qF, qG, qH, hk, w1]
  repeat refine K ?_
  refine CA [] (l1In_ok n 0 (caps.length - 1)) ?_
  try simp only [go_sem, qA, qB, qC, qD, qE, qF, qG, qH]
  repeat refine K ?_
  cases hw : within n 0 (caps.length - 1)
  · try simp only [go_sem, qA, qB, qC, qD, qE, qF, qG, qH, hw]
    repeat refine K ?_
    refine ⟨_, Sub.refl _, ?_⟩; simp [FinS, nilL, nilV, oneOr, -List.drop_one]
    simp [base, hw]
  have hw' := within_iff.1 hw
  have hk' := hk
  unfold lieOk at hk'
  simp only [Bool.and_eq_true] at hk'
  have en : n = (n.toNat : Int) := by omega
  try simp only [go_sem, qA, qB, qC, qD, qE, qF, qG, qH, hw]
  repeat refine K ?_
  rw [en]
  refine CA [] (l9Base_ok caps n.toNat hl hk'.1 (by omega)) ?_
  try simp only [go_sem, qA, qB, qC, qD, qE, qF, qG, qH]
  repeat refine K ?_
  try simp only [go_sem, qA, qB, qC, qD, qE, qF, qG, qH]
  repeat refine K ?_
  refine ⟨_, Sub.refl _, ?_⟩; simp [FinS, nilL, nilV, oneOr, -List.drop_one]
  try rw [← en]
  have em : max n 0 = n := by omega
  simp [em, base, hw, hk]
theorem startsOf_ok (b : List Ins) (hl : b.length < 2 ^ 40) : CallOk Tryz.prog num 207 [.sl .bw 5 (inss b)] [] (.sl .own 1 (ints (startsOf b))) := by
  refine enter (m := m207) (f := 207) (fn := Tryz.f161) Tryz.func161 (by kernel_rfl) rfl c207 rfl (by simp [Tryz.f161]) (by simp [bnds, bnd, nf_sl, nf_int, nf_bool, nf_str, ints_bnd]) (fun _ _ h => by simp [preH, look] at h) ?_
  unfold m207
  simp only [go_sem, qA, qB, qC, qD, qE, qF, qG, qH]
  repeat refine K ?_
  refine loop_intro (ι := Nat) (fun i => .mk [(3, .ns 10 0 i), (4, .int .i64 (szB (b.take i))), (8, .sl .bw 5 (inss b)), (9, .int .i64 b.length), (10, .int .i64 i)] [(10, 1, ints (startsN b i))] 11) (fun i => i ≤ b.length) (fun i => b.length - i) 0 (by simp) ?_ ?_
  · refine Sub.shape [] id (by omega) ?_ ?_ ?_ ?_ <;> simp [ints_rep]
    all_goals simp [startsN, szB, ints]
  · intro i hi
    simp only [go_sem, qA, qB, qC, qD, qE, qF, qG, qH]
    refine branch_intro (fun hc => ?_) (fun hc => ?_)
    · simp only [decide_eq_true_eq] at hc
      have hl' : i < b.length := by omega
      have h1 := szB_take_le b i
      have h2 := szB_take_le b (i + 1)
      have h3 := szB_take b i hl'
      have q1 : IntKind.i64.wrap (szB (b.take i) + emitSize (b.getD i default)) = szB (b.take (i + 1)) := by rw [wrap64 (by omega) (by omega)]; omega
      simp only [go_sem, qA, qB, qC, qD, qE, qF, qG, qH, inss_getD b i hl', startsN_length]
      repeat refine K ?_
      refine CA [] (implEmitSize_ok (b.getD i default)) ?_
      try simp only [go_sem, qA, qB, qC, qD, qE, qF, qG, qH]
      repeat refine K ?_
      try simp only [go_sem, qA, qB, qC, qD, qE, qF, qG, qH, q1, wrap_succ (i := i) (by omega)]
      repeat refine K ?_
      refine back_intro (i + 1) (Sub.shape [] (fun n => if n = 10 then 13 else n) (by omega) ?_ ?_ ?_ ?_) hl' (by omega) <;> simp [ints_rep]
      all_goals exact .inl (by rw [startsN_succ, ints_snoc'])
    · simp only [decide_eq_false_iff_not] at hc
      have he : i = b.length := by omega
      subst he
      simp only [go_sem, qA, qB, qC, qD, qE, qF, qG, qH]
      repeat refine K ?_
      refine ⟨_, Sub.refl _, FinS_one ?_⟩; simp [-List.drop_one]
      simp [startsN_length, startsOf]
theorem l11Starts_ok (b : List Ins) (hl : b.length < 2 ^ 40) : CallOk Tryz.prog num 252 [.sl .bw 5 (inss b)] [] (.sl .own 1 (ints (startsN b (b.length + 1)))) := by
  refine enter (m := m252) (f := 252) (fn := Tryz.f208) Tryz.func208 (by kernel_rfl) rfl c252 rfl (by simp [Tryz.f208]) (by simp [bnds, bnd, nf_sl, nf_int, nf_bool, nf_str, ints_bnd]) (fun _ _ h => by simp [preH, look] at h) ?_
  unfold m252
  simp only [go_sem, qA, qB, qC, qD, qE, qF, qG, qH]
  repeat refine K ?_
  refine loop_intro (ι := Nat) (fun i => .mk [(0, .sl .bw 5 (inss b)), (3, .ns 10 0 (i + 1)), (4, .int .i64 i)] [(10, 1, ints (startsN b (i + 1)))] 11) (fun i => i ≤ b.length) (fun i => b.length - i) 0 (by simp) ?_ ?_
  · refine Sub.shape [] id (by omega) ?_ ?_ ?_ ?_ <;> simp [ints_rep]
    all_goals simp [startsN, szB, ints]
  · intro i hi
    simp only [go_sem, qA, qB, qC, qD, qE, qF, qG, qH]
    refine branch_intro (fun hc => ?_) (fun hc => ?_)
    · simp only [decide_eq_true_eq] at hc
      have hl' : i < b.length := by omega
      have h1 := szB_take_le b i
      have h2 := szB_take_le b (i + 1)
      have h3 := szB_take b i hl'
      have q1 : IntKind.i64.wrap (szB (b.take i) + emitSize (b.getD i default)) = szB (b.take (i + 1)) := by rw [wrap64 (by omega) (by omega)]; omega
      have g := startsN_getD b (i + 1) i (by omega)
      have hgi := inss_getD b i hl'
      have hgs := ints_getD (startsN b (i + 1)) i (by rw [startsN_length]; omega)
      have hsl := startsN_length b (i + 1)
      have hws := wrap_succ (i := i) (by omega)
      repeat' (first
        | (simp only [go_sem, qA, qB, qC, qD, qE, qF, qG, qH, hgi, hgs, hsl, g, q1, hws])
        | (refine dcall_plain (specEmitSize_ok _) rfl rfl rfl rfl ?_)
        | (refine K ?_)
        | (refine And.intro ?_ ?_)
        | fail)
      all_goals
        refine back_intro (i + 1) (Sub.shape [] (fun n => if n = 10 then 12 else n) (by omega) ?_ ?_ ?_ ?_) hl' (by omega) <;> simp [ints_rep]
        all_goals exact .inl (by rw [startsN_succ b (i + 1), ints_snoc'])
    · simp only [decide_eq_false_iff_not] at hc
      have he : i = b.length := by omega
      subst he
      simp only [go_sem, qA, qB, qC, qD, qE, qF, qG, qH]
      repeat refine K ?_
      refine ⟨_, Sub.refl _, FinS_one ?_⟩; simp [-List.drop_one]
      simp [startsN_length]

end Go.Sep
