/- Contracts of functions. -/
import Derived.Test.YtjbknbgdfhihcaaVd0
namespace Go.Sep
open Go.Proofs
set_option linter.unusedSimpArgs false
set_option linter.unusedVariables false
set_option maxRecDepth 100000
open Nat renaming reduceAdd → qA, reduceMul → qB, reduceEqDiff → qC, reduceBEq → qD
open Int renaming reduceToNat → qE, reduceEq → qF, reduceLT → qG, reduceLE → qH
def m71 : MFn := ⟨23, [.t 4], .seq (xr [xF 4]) (.seq (.seq (xr [xv 7 0, xe 8 7, xo 9 (.mv (xi 0))]) (.blk 0 (.loop (.seq (xr [xo 10 (.bin .lss (.t 9) (.t 8))]) (.seq (.cond 10 (.skip) (.exit 0)) (.seq (.blk 1 (.seq (xr [xo 11 (.iad 2 (.t 7) (.t 9)), xm 12 2 11, xo 6 (.alloc [xz, xz]), ⟨none, .store 2 (.t 6) (.t 12), none⟩]) (.seq (xr [xa 13 0 6, xl 14 13, xv 15 1, xo 16 (.bin .sub (.t 15) (xi 1)), xc3 17 59 (.t 14) (xi 0) (.t 16), xo 18 (.un .«not» (.t 17))]) (.cond 18 (.seq (xr [xF 4]) (.ret)) (.skip))))) (xr [xo 19 (.bin .add (.t 9) (xi 1)), xv 9 19]))))))) (.seq (xr [xv 20 0, xe 21 20, xo 22 (.bin .leq (.t 21) (xi 4000)), xv 4 22]) (.ret)))⟩
theorem qAd {α : Type} (l : List α) (i : Nat) (d : α) (h : i < l.length) : l.getD i d ∈ l := by simp [List.getD_eq_getElem?_getD, h]
def notesOk (l : List Note) (n : Int) : Bool := l.all (fun x => within x.who 0 (n - 1)) && decide ((l.length : Int) ≤ 4000)
theorem notesOk_ok (l : List Note) (n : Int) (hl : l.length < 2 ^ 47) (h0 : 0 ≤ n) (h1 : n < 2 ^ 62) : CallOk Try.prog num 71 [.sl .bw 2 (notes l), .int .i64 n] [] (.bool (notesOk l n)) := by
 refine EN m71 Try.func76 ?_
 unfold m71
 have hw1 : IntKind.i64.wrap (n - 1) = n - 1 := qAs (by omega) (by omega)
 simp only [go_sem, qA, qB, qC, qD, qE, qF, qG, qH]
 repeat refine K ?_
 refine qA7 (ι := Nat) (fun i => .mk [(0, .sl .bw 2 (notes l)), (1, .int .i64 n), (7, .sl .bw 2 (notes l)), (8, .int .i64 l.length), (9, .int .i64 i)] [] 10) (fun i => i ≤ l.length ∧ (l.take i).all (fun x => within x.who 0 (n - 1)) = true) (fun i => l.length - i) 0 (by simp) ?_ ?_
 ·refine Sub.shape [] id (by omega) ?_ ?_ ?_ ?_ <;> simp [qA3]
 ·rintro i ⟨hi, hp⟩
  simp only [go_sem, qA, qB, qC, qD, qE, qF, qG, qH]
  refine qA2 (fun hc => ?_) (fun hc => ?_)
  ·simp only [decide_eq_true_eq] at hc
   have hl' : i < l.length := by omega
   simp only [go_sem, qA, qB, qC, qD, qE, qF, qG, qH, qCj l i hl', hw1]
   repeat refine K ?_
   refine CA [] (qAv (l.getD i default).who 0 (n - 1)) ?_
   try simp only [go_sem, qA, qB, qC, qD, qE, qF, qG, qH]
   repeat refine K ?_
   cases hw : within (l.getD i default).who 0 (n - 1)
   ·simp only [go_sem, qA, qB, qC, qD, qE, qF, qG, qH, hw]
    repeat refine K ?_
    refine fz ?_; simp [FinS, nilL, nilV, oneOr, -List.drop_one]
    simp only [notesOk]
    rw [all_stop (p := fun x : Note => within x.who 0 (n - 1)) hl' hw]
    rfl
   ·simp only [go_sem, qA, qB, qC, qD, qE, qF, qG, qH, hw, qA6 (i := i) (by omega)]
    repeat refine K ?_
    refine qA8 (i + 1) (Sub.shape [] id (by omega) ?_ ?_ ?_ ?_) ?_ ?_
    any_goals (first | omega | (simp [qA3]; done))
    exact ⟨hl', all_step (p := fun x : Note => within x.who 0 (n - 1)) hp hl' hw⟩
  ·simp only [decide_eq_false_iff_not] at hc
   simp only [go_sem, qA, qB, qC, qD, qE, qF, qG, qH]
   repeat refine K ?_
   refine fz ?_; simp [FinS, nilL, nilV, oneOr, -List.drop_one]
   simp only [notesOk, all_end hp hc]
   simp
theorem range_step {P : Nat → Bool} {i : Nat} (h : (List.range i).all P = true) (hp : P i = true) : (List.range (i + 1)).all P = true := by
 rw [List.range_succ, List.all_append, h]
 simp [hp]
theorem range_stop {P : Nat → Bool} {i n : Nat} (hi : i < n) (hp : P i = false) : (List.range n).all P = false := by
 cases h : (List.range n).all P with
 | false => rfl
 | true => rw [List.all_eq_true.1 h i (List.mem_range.2 hi)] at hp; exact absurd hp (by decide)
end Go.Sep
