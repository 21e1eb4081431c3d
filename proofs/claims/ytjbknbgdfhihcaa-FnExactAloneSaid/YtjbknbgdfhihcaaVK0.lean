/- Contracts of functions. -/
import Derived.Test.YtjbknbgdfhihcaaVj0
namespace Go.Sep
open Go.Proofs
set_option linter.unusedSimpArgs false
set_option linter.unusedVariables false
set_option maxRecDepth 100000
open Nat renaming reduceAdd → qA, reduceMul → qB, reduceEqDiff → qC, reduceBEq → qD
open Int renaming reduceToNat → qE, reduceEq → qF, reduceLT → qG, reduceLE → qH
def m115 : MFn := ⟨11, [.cell 2 2 true], .seq (xr [xb 1 0, xo 2 (.alloc [xz, xz])]) (.seq (xr [xo 3 (.alloc [xz, xz])]) (.seq (xr [xa 4 0 1, xl 5 4, xa 6 0 3, ⟨none, .store 1 (.t 6) (.t 5), none⟩]) (.seq (xr [xa 7 1 1, xl 8 7, xa 9 1 3, ⟨none, .store 1 (.t 9) (.t 8), none⟩]) (.seq (xr [xm 10 2 3, ⟨none, .store 2 (.t 2) (.t 10), none⟩]) (.ret)))))⟩
def m116 : MFn := ⟨23, [.t 2], .seq (xr [xo 2 (.mv (.c (.nil)))]) (.seq (xr [xv 5 0, xe 6 5, xo 7 (.mkS [xz, xz] 16 (.t 6) (.t 6)), xv 3 7]) (.seq (.seq (xr [xo 4 (.mv (xi 0))]) (.blk 0 (.loop (.seq (.seq (xr [xv 8 4, xv 9 0, xe 10 9, xo 11 (.bin .lss (.t 8) (.t 10))]) (.cond 11 (.skip) (.exit 0))) (.seq (.blk 1 (xr [xv 14 3, xv 15 4, xv 16 0, xv 17 4, xo 18 (.iad 2 (.t 16) (.t 17)), xm 19 2 18, xc1 20 115 (.t 19), xo 21 (.iad 2 (.t 14) (.t 15)), ⟨none, .store 2 (.t 21) (.t 20), none⟩])) (xr [xv 12 4, xo 13 (.bin .add (.t 12) (xi 1)), xv 4 13])))))) (.seq (xr [xv 22 3, xv 2 22]) (.ret))))⟩
def m117 : MFn := ⟨12, [.t 4], .seq (xr [xo 4 (.mv (xi 0))]) (.seq (xr [xv 5 1, xv 6 0, xe 7 6, xo 8 (.bin .sub (.t 5) (.t 7)), xv 1 8]) (.seq (.seq (xr [xv 9 1, xo 10 (.bin .lss (.t 9) (xi 0))]) (.cond 10 (.seq (xr [xo 4 (.mv (.c (.int .i64 (-1))))]) (.ret)) (.skip))) (.seq (xr [xv 11 1, xv 4 11]) (.ret))))⟩
def m118 : MFn := ⟨15, [.t 4], .seq (xr [xb 2 0, xb 3 1, xF 4]) (.seq (.seq (xr [xa 5 0 2, xl 6 5, xa 7 0 3, xl 8 7, xo 9 (.bin .neq (.t 6) (.t 8))]) (.cond 9 (.seq (xr [xF 4]) (.ret)) (.skip))) (.seq (.seq (xr [xa 10 1 2, xl 11 10, xa 12 1 3, xl 13 12, xo 14 (.bin .neq (.t 11) (.t 13))]) (.cond 14 (.seq (xr [xF 4]) (.ret)) (.skip))) (.seq (xr [xT 4]) (.ret))))⟩
def m119 : MFn := ⟨27, [.t 4], .seq (xr [xF 4]) (.seq (.seq (xr [xv 6 0, xe 7 6, xv 8 1, xe 9 8, xo 10 (.bin .neq (.t 7) (.t 9))]) (.cond 10 (.seq (xr [xF 4]) (.ret)) (.skip))) (.seq (.seq (xr [xo 5 (.mv (xi 0))]) (.blk 0 (.loop (.seq (.seq (xr [xv 11 5, xv 12 0, xe 13 12, xo 14 (.bin .lss (.t 11) (.t 13))]) (.cond 14 (.skip) (.exit 0))) (.seq (.blk 1 (.seq (.dreg (.take 0 (xv 17 0) (.take 1 (xv 18 5) (.take 2 (xo 19 (.iad 2 (.t 17) (.t 18))) (.take 3 (xm 20 2 19) (.take 4 (xv 21 1) (.only 5 [] (xv 22 5) (.only 6 [4] (xo 23 (.iad 2 (.t 21) (.t 22))) (.only 7 [6, 4] (xm 24 2 23) (.only 8 [3, 7, 2, 6, 0, 1, 4] (xc2 25 118 (.t 20) (.t 24)) (.only 9 [8, 3, 7, 2, 6, 0, 1, 4] (xo 26 (.un .«not» (.t 25))) (.done)))))))))))) (.cond 26 (.seq (xr [xF 4]) (.ret)) (.skip)))) (xr [xv 15 5, xo 16 (.bin .add (.t 15) (xi 1)), xv 5 16])))))) (.seq (xr [xT 4]) (.ret))))⟩
def m120 : MFn := ⟨27, [.t 4], .seq (xr [xo 4 (.mv (xi 0))]) (.seq (.seq (xr [xo 5 (.mv (xi 0))]) (.blk 0 (.loop (.seq (.seq (xr [xv 6 5, xv 7 0, xe 8 7, xo 9 (.bin .lss (.t 6) (.t 8))]) (.cond 9 (.skip) (.exit 0))) (.seq (.blk 1 (.seq (xr [xv 12 0, xv 13 5, xv 14 1, xo 15 (.iad 2 (.t 12) (.t 13)), xa 16 0 15, ⟨none, .store 1 (.t 16) (.t 14), none⟩]) (.seq (xr [xv 17 1, xo 18 (.bin .add (.t 17) (xi 1)), xv 1 18]) (.seq (xr [xv 19 0, xv 20 5, xv 21 1, xo 22 (.iad 2 (.t 19) (.t 20)), xa 23 1 22, ⟨none, .store 1 (.t 23) (.t 21), none⟩]) (xr [xv 24 1, xo 25 (.bin .add (.t 24) (xi 1)), xv 1 25]))))) (xr [xv 10 5, xo 11 (.bin .add (.t 10) (xi 1)), xv 5 11])))))) (.seq (xr [xv 26 1, xv 4 26]) (.ret)))⟩
def m121 : MFn := ⟨31, [.t 4], .seq (xr [xo 4 (.mv (xi 0))]) (.seq (.seq (xr [xo 5 (.mv (xi 0))]) (.blk 0 (.loop (.seq (.seq (xr [xv 6 5, xv 7 0, xe 8 7, xo 9 (.bin .lss (.t 6) (.t 8))]) (.cond 9 (.skip) (.exit 0))) (.seq (.blk 1 (.seq (.seq (xr [xv 12 0, xv 13 5, xo 14 (.iad 2 (.t 12) (.t 13)), xa 15 0 14, xl 16 15, xv 17 1, xo 18 (.bin .neq (.t 16) (.t 17))]) (.cond 18 (.seq (xr [xo 4 (.mv (.c (.int .i64 (-1))))]) (.ret)) (.skip))) (.seq (xr [xv 19 1, xo 20 (.bin .add (.t 19) (xi 1)), xv 1 20]) (.seq (.seq (xr [xv 21 0, xv 22 5, xo 23 (.iad 2 (.t 21) (.t 22)), xa 24 1 23, xl 25 24, xv 26 1, xo 27 (.bin .neq (.t 25) (.t 26))]) (.cond 27 (.seq (xr [xo 4 (.mv (.c (.int .i64 (-1))))]) (.ret)) (.skip))) (xr [xv 28 1, xo 29 (.bin .add (.t 28) (xi 1)), xv 1 29]))))) (xr [xv 10 5, xo 11 (.bin .add (.t 10) (xi 1)), xv 5 11])))))) (.seq (xr [xv 30 1, xv 4 30]) (.ret)))⟩
def tots {α : Type} (w : α → Nat) : List α → Nat
 | [] => 0
 | a :: l => w a + tots w l
theorem tots_app {α : Type} (w : α → Nat) : ∀ (a b : List α), tots w (a ++ b) = tots w a + tots w b
 | [], b => by simp [tots]
 | x :: a, b => by simp only [List.cons_append, tots, tots_app w a b]; omega
theorem qBb {α : Type} (w : α → Nat) (l : List α) (d : α) (i : Nat) (h : i < l.length) : tots w (l.take (i + 1)) = tots w (l.take i) + w (l.getD i d) := by
 rw [take_snoc l d i h, tots_app]
 simp [tots]
theorem qAq {α : Type} (w : α → Nat) (l : List α) (i : Nat) : tots w (l.take i) ≤ tots w l := by
 have : tots w l = tots w (l.take i) + tots w (l.drop i) := by rw [← tots_app, List.take_append_drop]
 omega
theorem tots_mem {α : Type} {w : α → Nat} : ∀ {l : List α} {x : α}, x ∈ l → w x ≤ tots w l
 | [], x, h => by simp at h
 | a :: l, x, h => by
  simp only [tots]
  rcases List.mem_cons.1 h with rfl | h
  ·omega
  ·have := tots_mem (w := w) h
   omega
theorem tots_const {α : Type} (c : Nat) : ∀ (l : List α), tots (fun _ => c) l = c * l.length
 | [] => rfl
 | _ :: l => by simp only [tots, tots_const c l, List.length_cons]; rw [Nat.mul_add, Nat.mul_one, Nat.add_comm]
theorem tots_le {α : Type} {w : α → Nat} {c : Nat} : ∀ {l : List α}, (∀ x ∈ l, w x ≤ c) → tots w l ≤ c * l.length
 | [], _ => by simp [tots]
 | a :: l, h => by
  have h1 := h a (by simp)
  have h2 := tots_le (l := l) (fun x hx => h x (by simp [hx]))
  simp only [tots, List.length_cons]
  rw [Nat.mul_add, Nat.mul_one]
  omega
def mks {α : Type} (w : α → Nat) (f : Int → α → α) : Int → List α → List α
 | _, [] => []
 | k, a :: l => f k a :: mks w f (k + w a) l
@[simp] theorem qAf {α : Type} (w : α → Nat) (f : Int → α → α) : ∀ (k : Int) (l : List α), (mks w f k l).length = l.length
 | _, [] => rfl
 | k, b :: l => by simp [mks, qAf]
@[simp] theorem mks_take {α : Type} (w : α → Nat) (f : Int → α → α) (k : Int) (l : List α) : (mks w f k l).take l.length = mks w f k l := List.take_of_length_le (by simp)
theorem mks_snoc {α : Type} (w : α → Nat) (f : Int → α → α) : ∀ (k : Int) (a : List α) (b : α), mks w f k (a ++ [b]) = mks w f k a ++ [f (k + tots w a) b]
 | k, [], b => by simp [mks, tots]
 | k, x :: a, b => by
  have e : k + (w x : Int) + (tots w a : Int) = k + ((w x + tots w a : Nat) : Int) := by push_cast; omega
  simp only [List.cons_append, mks, mks_snoc w f _ a b, tots, e]
theorem mks_set {α : Type} (w : α → Nat) (f : Int → α → α) (d : α) (l : List α) (k : Int) (i : Nat) (h : i < l.length) : (mks w f k (l.take i) ++ l.drop i).set i (f (k + tots w (l.take i)) (l.getD i d)) = mks w f k (l.take (i + 1)) ++ l.drop (i + 1) := by
 have hl : (mks w f k (l.take i)).length = i := by simp; omega
 rw [List.set_append_right _ _ (by omega), hl, Nat.sub_self, List.drop_eq_getElem_cons h, List.set_cons_zero, take_snoc l d i h, mks_snoc]
 simp
theorem mks_getD {α : Type} (w : α → Nat) (f : Int → α → α) (d : α) (l : List α) (k : Int) (i : Nat) (h : i < l.length) : (mks w f k (l.take i) ++ l.drop i).getD i d = l.getD i d := by
 have hl : (mks w f k (l.take i)).length = i := by simp; omega
 rw [List.getD_eq_getElem?_getD, List.getElem?_append_right (by omega), hl]
 simp [List.getD_eq_getElem?_getD]
theorem mks_get {α : Type} (w : α → Nat) (f : Int → α → α) (d : α) : ∀ (l : List α) (k : Int) (i : Nat), i < l.length → (mks w f k l).getD i d = f (k + tots w (l.take i)) (l.getD i d)
 | [], k, i, h => by simp at h
 | a :: l, k, 0, h => by simp [mks, tots]
 | a :: l, k, i + 1, h => by
  have := mks_get w f d l (k + w a) i (by simpa using h)
  have e : k + (w a : Int) + (tots w (l.take i) : Int) = k + ((w a + tots w (l.take i) : Nat) : Int) := by push_cast; omega
  simp only [mks, List.getD_cons_succ, List.take_succ_cons, tots, this, e]
theorem szL_add (a b : Nat) (n : Int) (h : 0 ≤ n) : (if szL a n < 0 then -1 else szL b (szL a n)) = szL (a + b) n := by
 unfold szL
 by_cases h1 : n - a < 0
 ·rw [if_pos h1, if_pos (by decide), if_pos (by push_cast; omega)]
 ·rw [if_neg h1, if_neg h1]
  by_cases h2 : n - a - b < 0
  ·rw [if_pos h2, if_pos (by push_cast; omega)]
  ·rw [if_neg h2, if_neg (by push_cast; omega)]
   push_cast
   omega
theorem szL_neg {k : Nat} {n : Int} (h : szL k n < 0) : szL k n = -1 := by
 unfold szL at h ⊢
 split
 ·rfl
 ·rename_i h4; rw [if_neg h4] at h; omega
theorem szL_ge {k : Nat} {n : Int} (h : ¬ szL k n < 0) (h0 : 0 ≤ n) : (k : Int) ≤ n := by
 have := szL_nonneg h
 omega
theorem szL_small {k : Nat} {n : Int} (h : n < k) : szL k n = -1 := by
 unfold szL
 rw [if_pos (by omega)]
theorem szL_big {k : Nat} {n : Int} (h : ¬ n < k) : szL k n = n - k := by
 unfold szL
 rw [if_neg (by omega)]
theorem toNote_ok (x : Note) : CallOk Try.prog num 115 [.agg (noteC x)] [] (.agg (noteC x)) := by
 refine EN m115 Try.func73 ?_
 unfold m115
 simp only [go_sem, qA, qB, qC, qD, qE, qF, qG, qH]
 repeat refine K ?_
 refine ⟨_, Sub.refl _, qB5 ?_⟩; simp [-List.drop_one]
theorem toNoteS_ok (l : List Note) (hl : 64 * l.length ≤ 2 ^ 47) : CallOk Try.prog num 116 [.sl .bw 2 (notes l)] [] (.sl .own 2 (notes l)) := by
 refine EN m116 Try.func33 ?_
 unfold m116
 simp only [go_sem, qA, qB, qC, qD, qE, qF, qG, qH]
 repeat refine K ?_
 refine qA7 (ι := Nat) (fun i => .mk [(0, .sl .bw 2 (notes l)), (3, .ns 10 0 l.length), (4, .int .i64 i)] [(10, 2, notes (l.take i ++ List.replicate (l.length - i) ⟨0, 0⟩))] 11) (fun i => i ≤ l.length) (fun i => l.length - i) 0 (by simp) ?_ ?_
 ·refine Sub.shape [] id (by omega) ?_ ?_ ?_ ?_ <;> simp [qA3]
  left
  exact notes_rep _ _ _
 ·intro i hi
  simp only [go_sem, qA, qB, qC, qD, qE, qF, qG, qH]
  refine qA2 (fun hc => ?_) (fun hc => ?_)
  ·simp only [decide_eq_true_eq] at hc
   have hl' : i < l.length := by omega
   have hm := fill_length l (⟨0, 0⟩ : Note) i hi
   simp only [go_sem, qA, qB, qC, qD, qE, qF, qG, qH, qCj l i hl', hm]
   repeat refine K ?_
   refine CA [] (toNote_ok (l.getD i default) ) ?_
   try simp only [go_sem, qA, qB, qC, qD, qE, qF, qG, qH]
   repeat refine K ?_
   have hs := fill_set l default (⟨0, 0⟩ : Note) i hl'
   have hs' : (l.take i ++ List.replicate (l.length - i) (⟨0, 0⟩ : Note)).set i ⟨(l.getD i default).who, (l.getD i default).v⟩ = l.take (i + 1) ++ List.replicate (l.length - (i + 1)) ⟨0, 0⟩ := hs
   try simp only [go_sem, qA, qB, qC, qD, qE, qF, qG, qH, qCj _ i (hm ▸ hl'), hm, hs', qA6 (i := i) (by omega)]
   repeat refine K ?_
   refine qA8 (i + 1) (Sub.shape [] id (by omega) ?_ ?_ ?_ ?_) ?_ ?_
   any_goals (first | omega | (simp [qA3]; done))
  ·simp only [decide_eq_false_iff_not] at hc
   have : i = l.length := by omega
   subst this
   simp only [go_sem, qA, qB, qC, qD, qE, qF, qG, qH]
   repeat refine K ?_
   refine fz ?_; simp [FinS, nilL, nilV, oneOr, -List.drop_one]
theorem szNoteS_ok (xs : List Note) (n : Int) (hx : xs.length < 2 ^ 63) (h0 : 0 ≤ n) (h1 : n ≤ 2 ^ 62) : CallOk Try.prog num 117 [.sl .bw 2 (notes xs), .int .i64 n] [] (.int .i64 (szL xs.length n)) := by
 refine EN m117 Try.func25 ?_
 unfold m117
 have hw : IntKind.i64.wrap (n - xs.length) = n - xs.length := qAs (by omega) (by omega)
 simp only [go_sem, qA, qB, qC, qD, qE, qF, qG, qH, hw]
 repeat refine K ?_
 refine qA2 (fun hc => ?_) (fun hc => ?_)
 ·simp only [go_sem, qA, qB, qC, qD, qE, qF, qG, qH]
  repeat refine K ?_
  refine fz ?_; simp [FinS, nilL, nilV, oneOr, -List.drop_one]
  simp only [decide_eq_true_eq] at hc
  simp [szL, hc]
 ·simp only [go_sem, qA, qB, qC, qD, qE, qF, qG, qH]
  repeat refine K ?_
  refine fz ?_; simp [FinS, nilL, nilV, oneOr, -List.drop_one]
  simp only [decide_eq_false_iff_not] at hc
  simp [szL, hc]
theorem eqNote_ok (x y : Note) : CallOk Try.prog num 118 [.agg (noteC x), .agg (noteC y)] [] (.bool (decide (x = y))) := by
 refine EN m118 Try.func90 ?_
 unfold m118
 cases x
 cases y
 repeat' (first
  | (simp only [go_sem, qA, qB, qC, qD, qE, qF, qG, qH])
  | (refine qA2 (fun hc => ?_) (fun hc => ?_) <;> ((try simp only [Bool.not_eq_true', Bool.not_eq_false', ne_eq, Bool.not_eq_true, Bool.not_eq_false] at hc) <;> (try simp only [hc])))
  | (refine qCt (fun hc => ?_) (fun hc => ?_) <;> ((try simp only [Bool.not_eq_true', Bool.not_eq_false', ne_eq, Bool.not_eq_true, Bool.not_eq_false] at hc) <;> (try simp only [hc])))
  | (refine qCe (fun hc => ?_) (fun hc => ?_) <;> ((try simp only [Bool.not_eq_true', Bool.not_eq_false', ne_eq, Bool.not_eq_true, Bool.not_eq_false] at hc) <;> (try simp only [hc])))
  | (refine ⟨by first | omega | (simp; done), ?_⟩)
  | fail)
 all_goals (refine fz ?_; simp [FinS, nilL, nilV, oneOr, -List.drop_one])
 all_goals (try (simp_all; done))
theorem eqNoteS_ok (xs ys : List Note) (hx : xs.length ≤ 2 ^ 47)  : CallOk Try.prog num 119 [.sl .bw 2 (notes xs), .sl .bw 2 (notes ys)] [] (.bool (decide (xs = ys))) := by
 refine EN m119 Try.func40 ?_
 unfold m119
 simp only [go_sem, qA, qB, qC, qD, qE, qF, qG, qH]
 repeat refine K ?_
 refine qA2 (fun hc => ?_) (fun hc => ?_)
 ·have hne : xs ≠ ys := fun he => by subst he; simp at hc
  simp only [go_sem, qA, qB, qC, qD, qE, qF, qG, qH]
  repeat refine K ?_
  refine fz ?_; simp [FinS, nilL, nilV, oneOr, -List.drop_one]
  exact hne
 ·have hl : xs.length = ys.length := by simp at hc; omega
  simp only [go_sem, qA, qB, qC, qD, qE, qF, qG, qH]
  repeat refine K ?_
  refine qA7 (ι := Nat) (fun i => .mk [(0, .sl .bw 2 (notes xs)), (1, .sl .bw 2 (notes ys)), (5, .int .i64 i)] [] 10) (fun i => i ≤ xs.length ∧ xs.take i = ys.take i) (fun i => xs.length - i) 0 (by simp) ?_ ?_
  ·refine Sub.shape [] id (by omega) ?_ ?_ ?_ ?_ <;> simp [qA3]
  ·rintro i ⟨hi, hp⟩
   simp only [go_sem, qA, qB, qC, qD, qE, qF, qG, qH]
   repeat refine K ?_
   refine qA2 (fun hc => ?_) (fun hc => ?_)
   ·simp only [decide_eq_true_eq] at hc
    have hil : i < xs.length := by omega
    have hjl : i < ys.length := by omega
    simp only [go_sem, qA, qB, qC, qD, qE, qF, qG, qH, qCj xs i hil, qCj ys i hjl]
    repeat refine K ?_
    refine DA [] (eqNote_ok (xs.getD i default) (ys.getD i default) ) ?_
    try simp only [go_sem, qA, qB, qC, qD, qE, qF, qG, qH]
    repeat refine K ?_
    by_cases he : xs.getD i default = ys.getD i default
    ·simp only [go_sem, qA, qB, qC, qD, qE, qF, qG, qH, he, qA6 (i := i) (by omega)]
     repeat refine K ?_
     refine qA8 (i + 1) (Sub.shape [] id (by omega) ?_ ?_ ?_ ?_) ?_ ?_
     any_goals (first | omega | (simp [qA3]; done))
     refine ⟨hil, ?_⟩
     rw [List.take_succ_eq_append_getElem hil, List.take_succ_eq_append_getElem hjl, hp]
     have he' : xs[i] = ys[i] := by simpa [List.getD_eq_getElem?_getD, hil, hjl] using he
     rw [he']
    ·simp only [go_sem, qA, qB, qC, qD, qE, qF, qG, qH, he]
     repeat refine K ?_
     refine fz ?_; simp [FinS, nilL, nilV, oneOr, -List.drop_one]
     intro h
     subst h
     exact he rfl
   ·simp only [decide_eq_false_iff_not] at hc
    have he : xs = ys := by
     have h1 : i = xs.length := by omega
     rw [h1, List.take_length, hl, List.take_length] at hp
     exact hp
    simp only [go_sem, qA, qB, qC, qD, qE, qF, qG, qH]
    repeat refine K ?_
    refine fz ?_; simp [FinS, nilL, nilV, oneOr, -List.drop_one]
    exact he
def wNote (_x : Note) : Nat := 2
def markNoteF (k : Int) (_x : Note) : Note := ⟨k, k + 1⟩
theorem markNoteS_ok (l : List Note) (k : Int) (h0 : 0 ≤ k) (h1 : k + tots wNote l < 2 ^ 59) (h2 : l.length < 2 ^ 59) : CallOk Try.prog num 120 [.ns 0 0 l.length, .int .i64 k] [(0, some (2, notes l), some (2, notes (mks wNote markNoteF k l)))] (.int .i64 (k + tots wNote l)) := by
 refine EH m120 Try.func44 ?_
 unfold m120
 simp only [go_sem, qA, qB, qC, qD, qE, qF, qG, qH]
 repeat refine K ?_
 refine qA7 (ι := Nat) (fun i => .mk [(0, .ns 0 0 l.length), (1, .int .i64 (k + tots wNote (l.take i))), (5, .int .i64 i)] [(0, 2, notes (mks wNote markNoteF k (l.take i) ++ l.drop i))] 10) (fun i => i ≤ l.length) (fun i => l.length - i) 0 (by omega) ?_ ?_
 ·refine Sub.shape [] id (by omega) ?_ ?_ ?_ ?_ <;> simp [qA3]
  all_goals simp [mks, tots]
 ·intro i hi
  have hm : (mks wNote markNoteF k (l.take i) ++ l.drop i).length = l.length := by simp; omega
  simp only [go_sem, qA, qB, qC, qD, qE, qF, qG, qH, hm]
  refine qA2 (fun hc => ?_) (fun hc => ?_)
  ·simp only [decide_eq_true_eq] at hc
   have hl' : i < l.length := by omega
   have ht := qBb wNote l default i hl'
   have htl := qAq wNote l (i + 1)
   have hw : wNote (l.getD i default) = 2 := rfl
   have gb : (notes (mks wNote markNoteF k (l.take i) ++ l.drop i)).getD i [] = [.int .i64 (l.getD i default).who, .int .i64 (l.getD i default).v] := by
    rw [qCj _ i (hm ▸ hl'), mks_getD _ _ default l k i hl']
   have gw : ∀ r, ((notes (mks wNote markNoteF k (l.take i) ++ l.drop i)).set i r).getD i [] = r := fun r => qA5 _ _ _ _ (by rw [notes_length, hm]; exact hl')
   have gi : ∀ a0 a1, (notes ((mks wNote markNoteF k (l.take i) ++ l.drop i).set i ⟨a0, a1⟩)).getD i [] = [.int .i64 a0, .int .i64 a1] := fun a0 a1 => by
    rw [qCj _ i (by rw [List.length_set, hm]; exact hl'), qA5 _ _ _ _ (by rw [hm]; exact hl')]
   have q0 : IntKind.i64.wrap (k + tots wNote (l.take i) + 1) = k + tots wNote (l.take i) + 1 := qAs (by omega) (by omega)
   have q1 : IntKind.i64.wrap (k + tots wNote (l.take i) + 1 + 1) = k + (tots wNote (l.take (i + 1)) : Int) := by rw [qAs (by omega) (by omega)]; omega
   have hs := mks_set wNote markNoteF default l k i hl'
   simp only [markNoteF] at hs
   simp only [go_sem, qA, qB, qC, qD, qE, qF, qG, qH, gb, gw, hm, List.length_set, gi, q0, q1, hs, qA6 (i := i) (by omega)]
   repeat refine K ?_
   refine qA8 (i + 1) (Sub.shape [] id (by omega) ?_ ?_ ?_ ?_) ?_ ?_
   any_goals (first | omega | (simp [qA3]; done))
  ·simp only [decide_eq_false_iff_not] at hc
   have he : l.take i = l := List.take_of_length_le (by omega)
   have hd : l.drop i = [] := List.drop_eq_nil_of_le (by omega)
   simp only [go_sem, qA, qB, qC, qD, qE, qF, qG, qH, he, hd]
   repeat refine K ?_
   refine fz ?_; simp [FinS, nilL, nilV, oneOr, -List.drop_one]
theorem heldNoteS_ok (l : List Note) (k : Int) (h0 : 0 ≤ k) (h1 : k + tots wNote l < 2 ^ 59) (h2 : l.length < 2 ^ 59) : CallOk Try.prog num 121 [.sl .bw 2 (notes (mks wNote markNoteF k l)), .int .i64 k] [] (.int .i64 (k + tots wNote l)) := by
 refine EN m121 Try.func48 ?_
 unfold m121
 simp only [go_sem, qA, qB, qC, qD, qE, qF, qG, qH, qAf]
 repeat refine K ?_
 refine qA7 (ι := Nat) (fun i => .mk [(0, .sl .bw 2 (notes (mks wNote markNoteF k l))), (1, .int .i64 (k + tots wNote (l.take i))), (5, .int .i64 i)] [] 10) (fun i => i ≤ l.length) (fun i => l.length - i) 0 (by omega) ?_ ?_
 ·refine Sub.shape [] id (by omega) ?_ ?_ ?_ ?_ <;> simp [qA3]
  all_goals simp [tots]
 ·intro i hi
  simp only [go_sem, qA, qB, qC, qD, qE, qF, qG, qH, qAf]
  repeat refine K ?_
  refine qA2 (fun hc => ?_) (fun hc => ?_)
  ·simp only [decide_eq_true_eq] at hc
   have hl' : i < l.length := by omega
   have ht := qBb wNote l default i hl'
   have htl := qAq wNote l (i + 1)
   have hw : wNote (l.getD i default) = 2 := rfl
   have gb : (notes (mks wNote markNoteF k l)).getD i [] = [.int .i64 (k + tots wNote (l.take i)), .int .i64 (k + tots wNote (l.take i) + 1)] := by
    rw [qCj _ i (by rw [qAf]; exact hl'), mks_get _ _ default l k i hl']
    rfl
   have q0 : IntKind.i64.wrap (k + tots wNote (l.take i) + 1) = k + tots wNote (l.take i) + 1 := qAs (by omega) (by omega)
   have q1 : IntKind.i64.wrap (k + tots wNote (l.take i) + 1 + 1) = k + (tots wNote (l.take (i + 1)) : Int) := by rw [qAs (by omega) (by omega)]; omega
   simp only [go_sem, qA, qB, qC, qD, qE, qF, qG, qH, gb, qAf, q0, q1, qA6 (i := i) (by omega)]
   repeat refine K ?_
   refine qA8 (i + 1) (Sub.shape [] id (by omega) ?_ ?_ ?_ ?_) ?_ ?_
   any_goals (first | omega | (simp [qA3]; done))
  ·simp only [decide_eq_false_iff_not] at hc
   have he : l.take i = l := List.take_of_length_le (by omega)
   simp only [go_sem, qA, qB, qC, qD, qE, qF, qG, qH, he]
   repeat refine K ?_
   refine fz ?_; simp [FinS, nilL, nilV, oneOr, -List.drop_one]
structure Hold (C : Prop) : Prop where
 h : C
end Go.Sep
