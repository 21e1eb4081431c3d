/- Contracts of functions. -/
import Derived.Test.YtoijhndfkfliiaaCona
namespace Go.Sep
open Go.Proofs
set_option linter.unusedSimpArgs false
set_option linter.unusedVariables false
set_option maxRecDepth 100000
def m34 : MFn := ⟨26, [.t 4], .seq (xr [xo 4 (.mv (.c (.bool false)))]) (.seq (.seq (xr [xv 6 0, xo 7 (.len (.t 6)), xv 8 1, xo 9 (.len (.t 8)), xo 10 (.bin .neq (.t 7) (.t 9))]) (.cond 10 (.seq (xr [xo 4 (.mv (.c (.bool false)))]) (.ret)) (.skip))) (.seq (.seq (xr [xv 11 0, xo 12 (.len (.t 11)), xo 13 (.mv (xi 0))]) (.blk 0 (.loop (.seq (xr [xo 14 (.bin .lss (.t 13) (.t 12))]) (.seq (.cond 14 (.skip) (.exit 0)) (.seq (.blk 1 (.seq (xr [xv 15 13, xv 5 15]) (.seq (.dreg (.take 0 (xv 16 0) (.take 1 (xv 17 5) (.take 2 (xo 18 (.iad 1 (.t 16) (.t 17))) (.take 3 (xo 19 (.load 1 false (.t 18))) (.take 4 (xv 20 1) (.only 5 [] (xv 21 5) (.only 6 [4] (xo 22 (.iad 1 (.t 20) (.t 21))) (.only 7 [] (xo 23 (.load 1 false (.t 22))) (.only 8 [3] (xo 24 (.bin .neq (.t 19) (.t 23))) (.done))))))))))) (.cond 24 (.seq (xr [xo 4 (.mv (.c (.bool false)))]) (.ret)) (.skip))))) (xr [xo 25 (.bin .add (.t 13) (xi 1)), xv 13 25]))))))) (.seq (xr [xo 4 (.mv (.c (.bool true)))]) (.ret))))⟩
theorem c34 : chkC Try.prog num Try.f123.ntmps m34.body ((Try.f123.body).getD .skip) = true := by kernel_rfl
open Nat renaming reduceAdd → qA, reduceMul → qB, reduceEqDiff → qC, reduceBEq → qD
open Int renaming reduceToNat → qE, reduceEq → qF, reduceLT → qG, reduceLE → qH
open List renaming getD_eq_getElem?_getD → gD

theorem slicesEqual_ok (xs ys : List Int) (hx : xs.length ≤ 2 ^ 47) : CallOk Try.prog num 34 [.sl .bw 1 (ints xs), .sl .bw 1 (ints ys)] [] (.bool (decide (xs = ys))) := by
  refine enter (m := m34) (f := 34) (fn := Try.f123) Try.func123 (by kernel_rfl) rfl c34 rfl (by simp [Try.f123]) (by simp [bnds, bnd, nf_sl, nf_int, nf_bool, nf_str, ints_bnd]) (fun _ _ h => by simp [preH, look] at h) ?_
  unfold m34
  simp only [go_sem, qA, qB, qC, qD, qE, qF, qG, qH]
  refine branch_intro (fun hc => ?_) (fun hc => ?_)
  · have hne : xs ≠ ys := fun he => by subst he; simp at hc
    simp only [go_sem, qA, qB, qC, qD, qE, qF, qG, qH]
    refine ⟨_, Sub.refl _, ?_⟩
    simp [FinS, nilL, nilV, oneOr, -List.drop_one]
    exact hne
  · have hl : xs.length = ys.length := by simp at hc; omega
    simp only [go_sem, qA, qB, qC, qD, qE, qF, qG, qH]
    refine loop_intro (ι := Nat) (fun i => .mk [(0, .sl .bw 1 (ints xs)), (1, .sl .bw 1 (ints ys)), (12, .int .i64 xs.length), (13, .int .i64 i)] [] 10) (fun i => i ≤ xs.length ∧ xs.take i = ys.take i) (fun i => xs.length - i) 0 (by simp) ?_ ?_
    · refine Sub.shape [] id (by omega) ?_ ?_ ?_ ?_ <;> simp [ints_rep]
    · rintro i ⟨hi, hp⟩
      simp only [go_sem, qA, qB, qC, qD, qE, qF, qG, qH]
      refine branch_intro (fun hc => ?_) (fun hc => ?_)
      · simp only [decide_eq_true_eq] at hc
        have hil : i < xs.length := by omega
        have hjl : i < ys.length := by omega
        simp only [go_sem, qA, qB, qC, qD, qE, qF, qG, qH, ints_getD xs i hil, ints_getD ys i hjl]
        refine ⟨by omega, by omega, by omega, by omega, branch_intro (fun hc => ?_) (fun hc => ?_)⟩
        · have hne : xs ≠ ys := fun he => by subst he; simp at hc
          simp only [go_sem, qA, qB, qC, qD, qE, qF, qG, qH]
          refine ⟨_, Sub.refl _, ?_⟩
          simp [FinS, nilL, nilV, oneOr, -List.drop_one]
          exact hne
        · have hw := wrap_succ (i := i) (by omega)
          simp only [go_sem, qA, qB, qC, qD, qE, qF, qG, qH, hw]
          have he : xs.getD i 0 = ys.getD i 0 := by simpa using hc
          refine back_intro (i + 1) (Sub.shape [] id (by omega) ?_ ?_ ?_ ?_) ⟨hil, ?_⟩ (by omega)
          case refine_5 =>
            rw [List.take_succ_eq_append_getElem hil, List.take_succ_eq_append_getElem hjl, hp]
            have he' : xs[i] = ys[i] := by simpa [List.getD_eq_getElem?_getD, hil, hjl] using he
            rw [he']
          all_goals simp [ints_rep]
      · simp only [decide_eq_false_iff_not] at hc
        have hi' : i = xs.length := by omega
        have he : xs = ys := by
          rw [hi', List.take_length, hl, List.take_length] at hp
          exact hp
        simp only [go_sem, qA, qB, qC, qD, qE, qF, qG, qH]
        refine ⟨_, Sub.refl _, ?_⟩
        simp [FinS, nilL, nilV, oneOr, -List.drop_one]
        exact he


end Go.Sep
