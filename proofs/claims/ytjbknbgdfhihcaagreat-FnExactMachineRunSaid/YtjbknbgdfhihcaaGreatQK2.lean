/- Contracts of functions. -/
import Derived.Test.YtjbknbgdfhihcaaGreatFns
import Derived.Test.YtjbknbgdfhihcaaGreatQa0
import Derived.Test.YtjbknbgdfhihcaaGreatQd0
import Derived.Test.YtjbknbgdfhihcaaGreatQe0
import Derived.Test.YtjbknbgdfhihcaaGreatQf0
import Derived.Test.YtjbknbgdfhihcaaGreatQj0
import Derived.Test.YtjbknbgdfhihcaaGreatQK0
import Derived.Test.YtjbknbgdfhihcaaGreatQa2
import Derived.Test.YtjbknbgdfhihcaaGreatQf2
namespace Go.Sep
open Go.Proofs
set_option linter.unusedSimpArgs false
set_option linter.unusedVariables false
set_option maxRecDepth 100000
open Nat renaming reduceAdd → qA, reduceMul → qB, reduceEqDiff → qC, reduceBEq → qD
open Int renaming reduceToNat → qE, reduceEq → qF, reduceLT → qG, reduceLE → qH
open List renaming getD_eq_getElem?_getD → gD
def m115 : MFn := ⟨11, [.cell 2 2 true], .seq (xr [xo 1 (.box (.t 0)), xo 2 (.alloc [xz, xz])]) (.seq (xr [xo 3 (.alloc [xz, xz])]) (.seq (xr [xo 4 (.fad 0 (.t 1)), xo 5 (.load 1 false (.t 4)), xo 6 (.fad 0 (.t 3)), ⟨none, .store 1 (.t 6) (.t 5), none⟩]) (.seq (xr [xo 7 (.fad 1 (.t 1)), xo 8 (.load 1 false (.t 7)), xo 9 (.fad 1 (.t 3)), ⟨none, .store 1 (.t 9) (.t 8), none⟩]) (.seq (xr [xo 10 (.load 2 true (.t 3)), ⟨none, .store 2 (.t 2) (.t 10), none⟩]) (.ret)))))⟩
theorem c115 : chkC Tryz.prog num Tryz.f132.ntmps m115.body ((Tryz.f132.body).getD .skip) = true := by kernel_rfl
def m116 : MFn := ⟨23, [.t 2], .seq (xr [xo 2 (.mv (.c (.nil)))]) (.seq (xr [xv 5 0, xo 6 (.len (.t 5)), xo 7 (.mkS [xz, xz] 16 (.t 6) (.t 6)), xv 3 7]) (.seq (.seq (xr [xo 4 (.mv (xi 0))]) (.blk 0 (.loop (.seq (.seq (xr [xv 8 4, xv 9 0, xo 10 (.len (.t 9)), xo 11 (.bin .lss (.t 8) (.t 10))]) (.cond 11 (.skip) (.exit 0))) (.seq (.blk 1 (xr [xv 14 3, xv 15 4, xv 16 0, xv 17 4, xo 18 (.iad 2 (.t 16) (.t 17)), xo 19 (.load 2 true (.t 18)), xo 20 (.call 115 [false] [.t 19]), xo 21 (.iad 2 (.t 14) (.t 15)), ⟨none, .store 2 (.t 21) (.t 20), none⟩])) (xr [xv 12 4, xo 13 (.bin .add (.t 12) (xi 1)), xv 4 13])))))) (.seq (xr [xv 22 3, xv 2 22]) (.ret))))⟩
theorem c116 : chkC Tryz.prog num Tryz.f60.ntmps m116.body ((Tryz.f60.body).getD .skip) = true := by kernel_rfl
def m117 : MFn := ⟨12, [.t 4], .seq (xr [xo 4 (.mv (xi 0))]) (.seq (xr [xv 5 1, xv 6 0, xo 7 (.len (.t 6)), xo 8 (.bin .sub (.t 5) (.t 7)), xv 1 8]) (.seq (.seq (xr [xv 9 1, xo 10 (.bin .lss (.t 9) (xi 0))]) (.cond 10 (.seq (xr [xo 4 (.mv (.c (.int .i64 (-1))))]) (.ret)) (.skip))) (.seq (xr [xv 11 1, xv 4 11]) (.ret))))⟩
theorem c117 : chkC Tryz.prog num Tryz.f52.ntmps m117.body ((Tryz.f52.body).getD .skip) = true := by kernel_rfl
theorem szL_small {k : Nat} {n : Int} (h : n < k) : szL k n = -1 := by
  unfold szL
  rw [if_pos (by omega)]
theorem szL_big {k : Nat} {n : Int} (h : ¬ n < k) : szL k n = n - k := by
  unfold szL
  rw [if_neg (by omega)]
theorem toNote_ok (x : Note) : CallOk Tryz.prog num 115 [.agg (noteC x)] [] (.agg (noteC x)) := by
  refine enter (m := m115) (f := 115) (fn := Tryz.f132) Tryz.func132 (by kernel_rfl) rfl c115 rfl (by simp [Tryz.f132]) (by simp [bnds, bnd, nf_sl, nf_int, nf_bool, nf_str, ints_bnd]) (fun _ _ h => by simp [preH, look] at h) ?_
  unfold m115
  simp only [go_sem, qA, qB, qC, qD, qE, qF, qG, qH]
  repeat refine K ?_
  refine ⟨_, Sub.refl _, FinS_one ?_⟩; simp [-List.drop_one]
theorem toNoteS_ok (l : List Note) (hl : 64 * l.length ≤ 2 ^ 47) : CallOk Tryz.prog num 116 [.sl .bw 2 (notes l)] [] (.sl .own 2 (notes l)) := by
  refine enter (m := m116) (f := 116) (fn := Tryz.f60) Tryz.func60 (by kernel_rfl) rfl c116 rfl (by simp [Tryz.f60]) (by simp [bnds, bnd, nf_sl, nf_int, nf_bool, nf_str, ints_bnd]) (fun _ _ h => by simp [preH, look] at h) ?_
  unfold m116
  simp only [go_sem, qA, qB, qC, qD, qE, qF, qG, qH]
  repeat refine K ?_
  refine loop_intro (ι := Nat) (fun i => .mk [(0, .sl .bw 2 (notes l)), (3, .ns 10 0 l.length), (4, .int .i64 i)] [(10, 2, notes (l.take i ++ List.replicate (l.length - i) ⟨0, 0⟩))] 11) (fun i => i ≤ l.length) (fun i => l.length - i) 0 (by simp) ?_ ?_
  · refine Sub.shape [] id (by omega) ?_ ?_ ?_ ?_ <;> simp [ints_rep]
    left
    exact notes_rep _ _ _
  · intro i hi
    simp only [go_sem, qA, qB, qC, qD, qE, qF, qG, qH]
    refine branch_intro (fun hc => ?_) (fun hc => ?_)
    · simp only [decide_eq_true_eq] at hc
      have hl' : i < l.length := by omega
      have hm := fill_length l (⟨0, 0⟩ : Note) i hi
      simp only [go_sem, qA, qB, qC, qD, qE, qF, qG, qH, notes_getD l i hl', hm]
      repeat refine K ?_
      refine CA [] (toNote_ok (l.getD i default) ) ?_
      try simp only [go_sem, qA, qB, qC, qD, qE, qF, qG, qH]
      repeat refine K ?_
      have hs := fill_set l default (⟨0, 0⟩ : Note) i hl'

      have hs' : (l.take i ++ List.replicate (l.length - i) (⟨0, 0⟩ : Note)).set i ⟨(l.getD i default).who, (l.getD i default).v⟩ = l.take (i + 1) ++ List.replicate (l.length - (i + 1)) ⟨0, 0⟩ := hs
      try simp only [go_sem, qA, qB, qC, qD, qE, qF, qG, qH, notes_getD _ i (hm ▸ hl'), hm, hs', wrap_succ (i := i) (by omega)]
      repeat refine K ?_
      refine back_intro (i + 1) (Sub.shape [] id (by omega) ?_ ?_ ?_ ?_) ?_ ?_
      any_goals (first | omega | (simp [ints_rep]; done))
    · simp only [decide_eq_false_iff_not] at hc
      have : i = l.length := by omega
      subst this
      simp only [go_sem, qA, qB, qC, qD, qE, qF, qG, qH]
      repeat refine K ?_
      refine ⟨_, Sub.refl _, ?_⟩; simp [FinS, nilL, nilV, oneOr, -List.drop_one]
theorem szNoteS_ok (xs : List Note) (n : Int) (hx : xs.length < 2 ^ 63) (h0 : 0 ≤ n) (h1 : n ≤ 2 ^ 62) : CallOk Tryz.prog num 117 [.sl .bw 2 (notes xs), .int .i64 n] [] (.int .i64 (szL xs.length n)) := by
  refine enter (m := m117) (f := 117) (fn := Tryz.f52) Tryz.func52 (by kernel_rfl) rfl c117 rfl (by simp [Tryz.f52]) (by simp [bnds, bnd, nf_sl, nf_int, nf_bool, nf_str, ints_bnd]) (fun _ _ h => by simp [preH, look] at h) ?_
  unfold m117
  have hw : IntKind.i64.wrap (n - xs.length) = n - xs.length := wrap64 (by omega) (by omega)
  simp only [go_sem, qA, qB, qC, qD, qE, qF, qG, qH, hw]
  repeat refine K ?_
  refine branch_intro (fun hc => ?_) (fun hc => ?_)
  · simp only [go_sem, qA, qB, qC, qD, qE, qF, qG, qH]
    repeat refine K ?_
    refine ⟨_, Sub.refl _, ?_⟩; simp [FinS, nilL, nilV, oneOr, -List.drop_one]
    simp only [decide_eq_true_eq] at hc
    simp [szL, hc]
  · simp only [go_sem, qA, qB, qC, qD, qE, qF, qG, qH]
    repeat refine K ?_
    refine ⟨_, Sub.refl _, ?_⟩; simp [FinS, nilL, nilV, oneOr, -List.drop_one]
    simp only [decide_eq_false_iff_not] at hc
    simp [szL, hc]
/-- What both orders come to is shown once. -/
structure Hold (C : Prop) : Prop where
  h : C

end Go.Sep
