/- Contracts of functions. -/
import Derived.Test.YtoijhndfkfliiaaConj
namespace Go.Sep
open Go.Proofs
set_option linter.unusedSimpArgs false
set_option linter.unusedVariables false
set_option maxRecDepth 100000
def m191 : MFn := ⟨18, [.t 4], .seq (xr [xo 2 (.box (.t 0)), xo 4 (.mv (xi 0))]) (.seq (xr [xo 5 (.fad 0 (.t 2)), xo 6 (.load 1 false (.t 5)), xv 7 1, xo 8 (.call 17 [false, false] [.t 6, .t 7]), xv 1 8]) (.seq (.seq (xr [xv 9 1, xo 10 (.bin .lss (.t 9) (xi 0))]) (.cond 10 (.seq (xr [xo 4 (.mv (.c (.int .i64 (-1))))]) (.ret)) (.skip))) (.seq (xr [xo 11 (.fad 1 (.t 2)), xo 12 (.load 1 false (.t 11)), xv 13 1, xo 14 (.call 241 [false, false] [.t 12, .t 13]), xv 1 14]) (.seq (.seq (xr [xv 15 1, xo 16 (.bin .lss (.t 15) (xi 0))]) (.cond 16 (.seq (xr [xo 4 (.mv (.c (.int .i64 (-1))))]) (.ret)) (.skip))) (.seq (xr [xv 17 1, xv 4 17]) (.ret))))))⟩
theorem c191 : chkC Try.prog num Try.f67.ntmps m191.body ((Try.f67.body).getD .skip) = true := by kernel_rfl
def m241 : MFn := ⟨21, [.t 4], .seq (xr [xo 4 (.mv (xi 0))]) (.seq (.seq (xr [xo 5 (.mv (xi 0))]) (.blk 0 (.loop (.seq (.seq (xr [xv 6 5, xv 7 0, xo 8 (.len (.t 7)), xo 9 (.bin .lss (.t 6) (.t 8))]) (.cond 9 (.skip) (.exit 0))) (.seq (.blk 1 (.seq (xr [xv 12 0, xv 13 5, xo 14 (.iad 1 (.t 12) (.t 13)), xo 15 (.load 1 false (.t 14)), xv 16 1, xo 17 (.call 293 [false, false] [.t 15, .t 16]), xv 1 17]) (.seq (xr [xv 18 1, xo 19 (.bin .lss (.t 18) (xi 0))]) (.cond 19 (.seq (xr [xo 4 (.mv (.c (.int .i64 (-1))))]) (.ret)) (.skip))))) (xr [xv 10 5, xo 11 (.bin .add (.t 10) (xi 1)), xv 5 11])))))) (.seq (xr [xv 20 1, xv 4 20]) (.ret)))⟩
theorem c241 : chkC Try.prog num Try.f154.ntmps m241.body ((Try.f154.body).getD .skip) = true := by kernel_rfl
def m293 : MFn := ⟨58, [.t 4], .seq (xr [xo 4 (.mv (xi 0))]) (.seq (.seq (xr [xo 5 (.mv (xi 0))]) (.blk 0 (.loop (.seq (.seq (xr [xv 6 5, xv 7 0, xo 8 (.len (.t 7)), xo 9 (.bin .lss (.t 6) (.t 8))]) (.cond 9 (.skip) (.exit 0))) (.seq (.blk 1 (.seq (.seq (xr [xv 12 0, xv 13 5, xo 14 (.iad 5 (.t 12) (.t 13)), xo 15 (.fad 0 (.t 14)), xo 16 (.load 1 false (.t 15)), xv 17 1, xo 18 (.bin .neq (.t 16) (.t 17))]) (.cond 18 (.seq (xr [xo 4 (.mv (.c (.int .i64 (-1))))]) (.ret)) (.skip))) (.seq (xr [xv 19 1, xo 20 (.bin .add (.t 19) (xi 1)), xv 1 20]) (.seq (.seq (xr [xv 21 0, xv 22 5, xo 23 (.iad 5 (.t 21) (.t 22)), xo 24 (.fad 1 (.t 23)), xo 25 (.load 1 false (.t 24)), xv 26 1, xo 27 (.bin .neq (.t 25) (.t 26))]) (.cond 27 (.seq (xr [xo 4 (.mv (.c (.int .i64 (-1))))]) (.ret)) (.skip))) (.seq (xr [xv 28 1, xo 29 (.bin .add (.t 28) (xi 1)), xv 1 29]) (.seq (.seq (xr [xv 30 0, xv 31 5, xo 32 (.iad 5 (.t 30) (.t 31)), xo 33 (.fad 2 (.t 32)), xo 34 (.load 1 false (.t 33)), xv 35 1, xo 36 (.bin .neq (.t 34) (.t 35))]) (.cond 36 (.seq (xr [xo 4 (.mv (.c (.int .i64 (-1))))]) (.ret)) (.skip))) (.seq (xr [xv 37 1, xo 38 (.bin .add (.t 37) (xi 1)), xv 1 38]) (.seq (.seq (xr [xv 39 0, xv 40 5, xo 41 (.iad 5 (.t 39) (.t 40)), xo 42 (.fad 3 (.t 41)), xo 43 (.load 1 false (.t 42)), xv 44 1, xo 45 (.bin .neq (.t 43) (.t 44))]) (.cond 45 (.seq (xr [xo 4 (.mv (.c (.int .i64 (-1))))]) (.ret)) (.skip))) (.seq (xr [xv 46 1, xo 47 (.bin .add (.t 46) (xi 1)), xv 1 47]) (.seq (.seq (xr [xv 48 0, xv 49 5, xo 50 (.iad 5 (.t 48) (.t 49)), xo 51 (.fad 4 (.t 50)), xo 52 (.load 1 false (.t 51)), xv 53 1, xo 54 (.bin .neq (.t 52) (.t 53))]) (.cond 54 (.seq (xr [xo 4 (.mv (.c (.int .i64 (-1))))]) (.ret)) (.skip))) (xr [xv 55 1, xo 56 (.bin .add (.t 55) (xi 1)), xv 1 56]))))))))))) (xr [xv 10 5, xo 11 (.bin .add (.t 10) (xi 1)), xv 5 11])))))) (.seq (xr [xv 57 1, xv 4 57]) (.ret)))⟩
theorem c293 : chkC Try.prog num Try.f240.ntmps m293.body ((Try.f240.body).getD .skip) = true := by kernel_rfl
open Nat renaming reduceAdd → qA, reduceMul → qB, reduceEqDiff → qC, reduceBEq → qD
open Int renaming reduceToNat → qE, reduceEq → qF, reduceLT → qG, reduceLE → qH
open List renaming getD_eq_getElem?_getD → gD

theorem insMarks_at (k : Int) (n i : Nat) (h : i < n) : (insMarks k n).getD i default = insMark (k + 5 * i) := by
  simp [insMarks, List.getD_eq_getElem?_getD, h]
theorem bodMarks_at : ∀ (l : List (List Ins)) (k : Int) (i : Nat), i < l.length → (bodMarks k l).getD i [] = insMarks (k + 5 * tot (l.take i)) (l.getD i []).length
  | [], _, i, h => by simp at h
  | b :: l, k, 0, _ => by simp [bodMarks, tot]
  | b :: l, k, i + 1, h => by
    simp only [bodMarks, List.getD_cons_succ, List.take_succ_cons, tot]
    rw [bodMarks_at l (k + 5 * b.length) i (by simpa using h)]
    congr 1
    push_cast
    omega
set_option maxHeartbeats 2000000 in
theorem heldInsS_ok (n : Nat) (k : Int) (h0 : 0 ≤ k) (h1 : k + 5 * n < 2 ^ 60) : CallOk Try.prog num 293 [.sl .bw 5 (inss (insMarks k n)), .int .i64 k] [] (.int .i64 (k + 5 * n)) := by
  refine enter (m := m293) (f := 293) (fn := Try.f240) Try.func240 (by kernel_rfl) rfl c293 rfl (by simp [Try.f240]) (by simp [bnds, bnd, nf_sl, nf_int, nf_bool, nf_str, ints_bnd]) (fun _ _ h => by simp [preH, look] at h) ?_
  unfold m293
  have hl := insMarks_length k n
  simp only [go_sem, qA, qB, qC, qD, qE, qF, qG, qH, hl]
  repeat refine K ?_
  refine loop_intro (ι := Nat) (fun i => .mk [(0, .sl .bw 5 (inss (insMarks k n))), (1, .int .i64 (k + 5 * i)), (5, .int .i64 i)] [] 10) (fun i => i ≤ n) (fun i => n - i) 0 (by omega) ?_ ?_
  · refine Sub.shape [] id (by omega) ?_ ?_ ?_ ?_ <;> simp [ints_rep]
  · intro i hi
    simp only [go_sem, qA, qB, qC, qD, qE, qF, qG, qH, hl]
    repeat refine K ?_
    refine branch_intro (fun hc => ?_) (fun hc => ?_)
    · simp only [decide_eq_true_eq] at hc
      have hl' : i < n := by omega
      have gb : (inss (insMarks k n)).getD i [] = [.int .i64 (k + 5 * i), .int .i64 (k + 5 * i + 1), .int .i64 (k + 5 * i + 1 + 1), .int .i64 (k + 5 * i + 1 + 1 + 1), .int .i64 (k + 5 * i + 1 + 1 + 1 + 1)] := by
        rw [inss_getD _ i (by rw [hl]; exact hl'), insMarks_at k n i hl']
        rfl
      have q1 : IntKind.i64.wrap (k + 5 * (i : Int) + 1) = k + 5 * (i : Int) + 1 := wrap64 (by omega) (by omega)
      have q2 : IntKind.i64.wrap (k + 5 * (i : Int) + 1 + 1) = k + 5 * (i : Int) + 1 + 1 := wrap64 (by omega) (by omega)
      have q3 : IntKind.i64.wrap (k + 5 * (i : Int) + 1 + 1 + 1) = k + 5 * (i : Int) + 1 + 1 + 1 := wrap64 (by omega) (by omega)
      have q4 : IntKind.i64.wrap (k + 5 * (i : Int) + 1 + 1 + 1 + 1) = k + 5 * (i : Int) + 1 + 1 + 1 + 1 := wrap64 (by omega) (by omega)
      have q5 : IntKind.i64.wrap (k + 5 * (i : Int) + 1 + 1 + 1 + 1 + 1) = k + 5 * ((i + 1 : Nat) : Int) := by rw [wrap64 (by omega) (by omega)]; omega
      simp only [go_sem, qA, qB, qC, qD, qE, qF, qG, qH, gb, hl, q1, q2, q3, q4, q5, wrap_succ (i := i) (by omega)]
      repeat refine K ?_
      refine back_intro (i + 1) (Sub.shape [] id (by omega) ?_ ?_ ?_ ?_) ?_ ?_
      any_goals (first | omega | (simp [ints_rep]; done))
    · simp only [decide_eq_false_iff_not] at hc
      have he : i = n := by omega
      subst he
      simp only [go_sem, qA, qB, qC, qD, qE, qF, qG, qH]
      repeat refine K ?_
      refine ⟨_, Sub.refl _, ?_⟩; simp [FinS, nilL, nilV, oneOr, -List.drop_one]
set_option maxHeartbeats 2000000 in
theorem heldInsSS_ok (l : List (List Ins)) (k : Int) (h0 : 0 ≤ k) (h1 : k + 5 * tot l < 2 ^ 59) (h2 : l.length < 2 ^ 59) : CallOk Try.prog num 241 [.sl .bw 1 (bodies .bw (bodMarks k l)), .int .i64 k] [] (.int .i64 (k + 5 * tot l)) := by
  refine enter (m := m241) (f := 241) (fn := Try.f154) Try.func154 (by kernel_rfl) rfl c241 rfl (by simp [Try.f154]) (by simp [bnds, bnd, nf_sl, nf_int, nf_bool, nf_str, ints_bnd]) (fun _ _ h => by simp [preH, look] at h) ?_
  unfold m241
  have hl := bodMarks_length k l
  simp only [go_sem, qA, qB, qC, qD, qE, qF, qG, qH, hl]
  repeat refine K ?_
  refine loop_intro (ι := Nat) (fun i => .mk [(0, .sl .bw 1 (bodies .bw (bodMarks k l))), (1, .int .i64 (k + 5 * tot (l.take i))), (5, .int .i64 i)] [] 10) (fun i => i ≤ l.length) (fun i => l.length - i) 0 (by omega) ?_ ?_
  · refine Sub.shape [] id (by omega) ?_ ?_ ?_ ?_ <;> simp [ints_rep]
    all_goals simp [tot]
  · intro i hi
    simp only [go_sem, qA, qB, qC, qD, qE, qF, qG, qH, hl]
    repeat refine K ?_
    refine branch_intro (fun hc => ?_) (fun hc => ?_)
    · simp only [decide_eq_true_eq] at hc
      have hl' : i < l.length := by omega
      have ht := tot_take l i hl'
      have htl := tot_take_le l (i + 1)
      have gb : (bodies .bw (bodMarks k l)).getD i [] = [.sl .bw 5 (inss (insMarks (k + 5 * tot (l.take i)) (l.getD i []).length))] := by
        rw [bodies_getD .bw _ i (by rw [hl]; exact hl'), bodMarks_at l k i hl']
      have e5 : k + 5 * (tot (l.take i) : Int) + 5 * ((l.getD i []).length : Int) = k + 5 * (tot (l.take (i + 1)) : Int) := by omega
      have d5 : decide (k + 5 * (tot (l.take (i + 1)) : Int) < 0) = false := by simp; omega
      simp only [go_sem, qA, qB, qC, qD, qE, qF, qG, qH, gb, hl]
      repeat refine K ?_
      refine CA [] (heldInsS_ok (l.getD i []).length (k + 5 * tot (l.take i)) (by omega) (by omega)) ?_
      try simp only [go_sem, qA, qB, qC, qD, qE, qF, qG, qH]
      repeat refine K ?_
      try simp only [go_sem, qA, qB, qC, qD, qE, qF, qG, qH, e5, d5, hl, wrap_succ (i := i) (by omega)]
      repeat refine K ?_
      refine back_intro (i + 1) (Sub.shape [] id (by omega) ?_ ?_ ?_ ?_) ?_ ?_
      any_goals (first | omega | (simp [ints_rep]; done))
    · simp only [decide_eq_false_iff_not] at hc
      have he : l.take i = l := List.take_of_length_le (by omega)
      simp only [go_sem, qA, qB, qC, qD, qE, qF, qG, qH, he]
      repeat refine K ?_
      refine ⟨_, Sub.refl _, ?_⟩; simp [FinS, nilL, nilV, oneOr, -List.drop_one]
theorem heldProg_ok (p : Prog) (k : Int) (h0 : 0 ≤ k) (h1 : k + p.caps.length + 5 * tot p.bods < 2 ^ 59) (h2 : p.bods.length < 2 ^ 59) :
    CallOk Try.prog num 191 [.agg [.sl .bw 1 (ints (marks k p.caps.length)), .sl .bw 1 (bodies .bw (bodMarks (k + p.caps.length) p.bods))], .int .i64 k] [] (.int .i64 (k + p.caps.length + 5 * tot p.bods)) := by
  refine enter (m := m191) (f := 191) (fn := Try.f67) Try.func67 (by kernel_rfl) rfl c191 rfl (by simp [Try.f67]) (by simp [bnds, bnd, nf_sl, nf_int, nf_bool, nf_str, ints_bnd]) (fun _ _ h => by simp [preH, look] at h) ?_
  unfold m191
  have d1 : decide (k + (p.caps.length : Int) < 0) = false := by simp; omega
  have d2 : decide (k + (p.caps.length : Int) + 5 * (tot p.bods : Int) < 0) = false := by simp; omega
  simp only [go_sem, qA, qB, qC, qD, qE, qF, qG, qH]
  repeat refine K ?_
  refine CA [] (heldIntS_ok p.caps.length k (by omega) (by omega)) ?_
  try simp only [go_sem, qA, qB, qC, qD, qE, qF, qG, qH]
  repeat refine K ?_
  try simp only [go_sem, qA, qB, qC, qD, qE, qF, qG, qH, d1]
  repeat refine K ?_
  refine CA [] (heldInsSS_ok p.bods (k + p.caps.length) (by omega) (by omega) h2) ?_
  try simp only [go_sem, qA, qB, qC, qD, qE, qF, qG, qH]
  repeat refine K ?_
  try simp only [go_sem, qA, qB, qC, qD, qE, qF, qG, qH, d2]
  repeat refine K ?_
  refine ⟨_, Sub.refl _, ?_⟩; simp [FinS, nilL, nilV, oneOr, -List.drop_one]


end Go.Sep
