/- Contracts of functions. -/
import Derived.Test.YtjbknbgdfhihcaaGreatUy0
import Derived.Test.YtjbknbgdfhihcaaGreatUe2
import Derived.Test.YtjbknbgdfhihcaaGreatUu2
namespace Go.Sep
open Go.Proofs
set_option linter.unusedSimpArgs false
set_option linter.unusedVariables false
set_option maxRecDepth 100000
open Nat renaming reduceAdd → qA, reduceMul → qB, reduceEqDiff → qC, reduceBEq → qD
open Int renaming reduceToNat → qE, reduceEq → qF, reduceLT → qG, reduceLE → qH
def m202 : MFn := ⟨26, [.t 2], .seq (xr [xF 2]) (.seq (.seq (xr [xo 3 (.mv (xi 0))]) (.blk 0 (.loop (.seq (.seq (xr [xv 4 3, xv 5 0, xe 6 5, xo 7 (.bin .lss (.t 4) (.t 6))]) (.cond 7 (.skip) (.exit 0))) (.seq (.blk 1 (.seq (xr [xv 10 0, xv 11 3, xo 12 (.iad 1 (.t 10) (.t 11)), xl 13 12, xc3 14 64 (.t 13) (xi 1) (xi 4), xo 15 (.un .«not» (.t 14))]) (.cond 15 (.seq (xr [xF 2]) (.ret)) (.skip)))) (xr [xv 8 3, xo 9 (.bin .add (.t 8) (xi 1)), xv 3 9])))))) (.seq (xr [xv 16 0, xe 17 16, xo 18 (.bin .leq (.t 17) (xi 24)), xv 19 18, xg 20 (.mv (.t 0)) 19 true, xg 21 (.mv (.t 0)) 19 true, xg 22 (.len (.t 21)) 19 true, xg 23 (.call 251 [false, false] [.t 20, .t 22]) 19 true, xg 24 (.bin .leq (.t 23) (xi 24)) 19 true, xo 25 (.pick (.t 19) (.t 24) (.c (.bool false))), xv 2 25]) (.ret)))⟩
def m206 : MFn := ⟨42, [.t 4], .seq (xr [xo 4 (.mv (xi 0))]) (.seq (.seq (xr [xv 9 1, xv 10 0, xe 11 10, xo 12 (.bin .sub (.t 11) (xi 1)), xc3 13 59 (.t 9) (xi 0) (.t 12), xo 14 (.un .«not» (.t 13)), xv 15 14, xg 16 (.mv (.t 0)) 15 false, xg 17 (.call 68 [false] [.t 16]) 15 false, xg 18 (.un .«not» (.t 17)) 15 false, xo 19 (.pick (.t 15) (.c (.bool true)) (.t 18))]) (.cond 19 (.seq (xr [xo 4 (.mv (.c (.int .i64 (-1))))]) (.ret)) (.skip))) (.seq (xr [xo 5 (.mv (xi 0)), xo 6 (.mv (xi 0))]) (.seq (.seq (xr [xv 20 0, xe 21 20, xo 22 (.mv (xi 0))]) (.blk 0 (.loop (.seq (xr [xo 23 (.bin .lss (.t 22) (.t 21))]) (.seq (.cond 23 (.skip) (.exit 0)) (.seq (.blk 1 (.seq (xr [xv 24 22, xo 25 (.iad 1 (.t 20) (.t 22)), xl 26 25, xv 7 24, xv 8 26]) (.seq (.seq (xr [xv 27 7, xv 28 1, xo 29 (.bin .lss (.t 27) (.t 28))]) (.cond 29 (xr [xv 30 5, xv 31 8, xo 32 (.bin .add (.t 31) (xi 4)), xo 33 (.bin .add (.t 30) (.t 32)), xv 5 33]) (.skip))) (xr [xv 34 6, xv 35 8, xo 36 (.bin .add (.t 35) (xi 4)), xo 37 (.bin .add (.t 34) (.t 36)), xv 6 37])))) (xr [xo 38 (.bin .add (.t 22) (xi 1)), xv 22 38]))))))) (.seq (.seq (xr [xv 39 6, xo 40 (.bin .gtr (.t 39) (xi 24))]) (.cond 40 (.seq (xr [xo 4 (.mv (.c (.int .i64 (-1))))]) (.ret)) (.skip))) (.seq (xr [xv 41 5, xv 4 41]) (.ret))))))⟩
def m251 : MFn := ⟨20, [.t 4], .seq (xr [xo 4 (.mv (xi 0))]) (.seq (xr [xo 5 (.mv (xi 0))]) (.seq (.seq (xr [xo 6 (.mv (xi 0))]) (.blk 0 (.loop (.seq (.seq (xr [xv 7 6, xv 8 1, xo 9 (.bin .lss (.t 7) (.t 8))]) (.cond 9 (.skip) (.exit 0))) (.seq (.blk 1 (xr [xv 12 5, xv 13 0, xv 14 6, xo 15 (.iad 1 (.t 13) (.t 14)), xl 16 15, xo 17 (.bin .add (.t 12) (.t 16)), xo 18 (.bin .add (.t 17) (xi 4)), xv 5 18])) (xr [xv 10 6, xo 11 (.bin .add (.t 10) (xi 1)), xv 6 11])))))) (.seq (xr [xv 19 5, xv 4 19]) (.ret))))⟩
def m257 : MFn := ⟨19, [.t 4], .seq (xr [xo 4 (.mv (xi 0))]) (.seq (.seq (xr [xv 5 0, xc1 6 202 (.t 5), xo 7 (.un .«not» (.t 6)), xv 8 7, xg 9 (.mv (.t 1)) 8 false, xg 10 (.mv (.t 0)) 8 false, xg 11 (.len (.t 10)) 8 false, xg 12 (.bin .sub (.t 11) (xi 1)) 8 false, xg 13 (.call 64 [false, false, false] [.t 9, xi 0, .t 12]) 8 false, xg 14 (.un .«not» (.t 13)) 8 false, xo 15 (.pick (.t 8) (.c (.bool true)) (.t 14))]) (.cond 15 (.seq (xr [xo 4 (.mv (.c (.int .i64 (-1))))]) (.ret)) (.skip))) (.seq (xr [xv 16 0, xv 17 1, xc2 18 251 (.t 16) (.t 17), xv 4 18]) (.ret)))⟩
theorem sumC_app : ∀ (a b : List Int), sumC (a ++ b) = sumC a + sumC b
 | [], b => by simp [sumC]
 | x :: a, b => by simp only [List.cons_append, sumC, sumC_app a b]; omega
theorem sumC_take (l : List Int) (i : Nat) (h : i < l.length) : sumC (l.take (i + 1)) = sumC (l.take i) + (l.getD i 0) + 4 := by
 rw [qD4 l 0 i h, sumC_app]
 simp only [sumC]
 omega
theorem capsOk_sum : ∀ {l : List Int}, capsOk l = true → 5 * (l.length : Int) ≤ sumC l ∧ sumC l ≤ 8 * l.length
 | [], _ => by simp [sumC]
 | c :: l, h => by
  unfold capsOk at h
  rw [List.all_cons, Bool.and_eq_true] at h
  have ih := capsOk_sum (l := l) h.2
  have := within_iff.1 h.1
  simp only [sumC, List.length_cons]
  omega
theorem capsOk_take {l : List Int} (h : capsOk l = true) (i : Nat) : capsOk (l.take i) = true := by
 unfold capsOk at *
 rw [List.all_eq_true] at *
 exact fun x hx => h x (List.mem_of_mem_take hx)
theorem qCn {l : List Int} (h : capsOk l = true) (i : Nat) : 0 ≤ sumC (l.take i) ∧ sumC (l.take i) ≤ sumC l ∧ sumC (l.take i) ≤ 8 * l.length := by
 have h1 := capsOk_sum (capsOk_take h i)
 have h2 : capsOk (l.drop i) = true := by
  unfold capsOk at *
  rw [List.all_eq_true] at *
  exact fun x hx => h x (List.mem_of_mem_drop hx)
 have h3 := capsOk_sum h2
 have e : sumC l = sumC (l.take i) + sumC (l.drop i) := by rw [← sumC_app, List.take_append_drop]
 have h4 : (l.take i).length ≤ l.length := by simp; omega
 omega
theorem base_range {caps : List Int} {n : Int} (h : ¬ base caps n < 0) : 0 ≤ n ∧ n.toNat < caps.length ∧ lieOk caps = true ∧ 0 ≤ base caps n ∧ base caps n + caps.getD n.toNat 0 + 4 ≤ 24 ∧ within (caps.getD n.toNat 0) 1 4 = true := by
 unfold base at *
 split at h
 ·rename_i hc
  rw [if_pos hc]
  simp only [Bool.and_eq_true, within_iff] at hc
  have hn : n.toNat < caps.length := by omega
  have hl := hc.2
  unfold lieOk at hl
  simp only [Bool.and_eq_true, decide_eq_true_eq] at hl
  have h1 := qCn hl.1 n.toNat
  have h2 := qCn hl.1 (n.toNat + 1)
  have h3 := sumC_take caps n.toNat hn
  refine ⟨by omega, hn, hc.2, by omega, by omega, ?_⟩
  have := hl.1
  unfold capsOk at this
  rw [List.all_eq_true] at this
  exact this _ (qA9 caps n.toNat 0 hn)
 ·simp at h
theorem startsN_take (b : List Ins) (n m : Nat) (h : m ≤ n) : (startsN b n).take m = startsN b m := by
 apply List.ext_getElem (by simp [startsN]; omega)
 intro i h1 h2
 simp [startsN]
def single (x : Ins) (starts : List Int) : Step :=
 if x.op = 1 then ⟨1, x.r, 0, 0, x.n⟩ else if x.op = 2 then ⟨2, x.r, x.a, x.b, 0⟩ else if x.op = 3 then ⟨3, x.r, x.a, x.b, 0⟩ else if x.op = 4 then ⟨4, x.r, x.a, x.b, 0⟩
 else if x.op = 10 then ⟨9, 0, x.a, 0, 0⟩ else if x.op = 11 then ⟨10, 0, 0, 0, starts.getD x.n.toNat 0⟩ else if x.op = 12 then ⟨11, 0, x.a, 0, starts.getD x.n.toNat 0⟩ else ⟨12, 0, 0, 0, 0⟩
def emit (caps : List Int) (x : Ins) (f : Int) (starts : List Int) : List Step :=
 if insOk x starts.length caps.length then
  if within x.op 5 9 then
   if base caps x.n < 0 then []
   else lockL f (base caps x.n) ++ (if x.op = 5 ∨ x.op = 7 then sendL f (base caps x.n) (caps.getD x.n.toNat 0) x else if x.op = 6 ∨ x.op = 8 then takeL f (base caps x.n) (caps.getD x.n.toNat 0) x else closeL f (base caps x.n))
  else [single x starts]
 else []
theorem emit_len (caps : List Int) (x : Ins) (f : Int) (starts : List Int) : (emit caps x f starts).length ≤ 40 := by
 unfold emit
 repeat' split
 all_goals simp [lockL, sendL, takeL, closeL, shutL, letL]
 all_goals (try split)
 all_goals simp
def compN (caps : List Int) (b : List Ins) : Nat → List Step
 | 0 => []
 | i + 1 => compN caps b i ++ emit caps (b.getD i default) (szB (b.take i)) (startsOf b)
def comp (caps : List Int) (b : List Ins) : List Step := compN caps b b.length
theorem compN_len (caps : List Int) (b : List Ins) : ∀ i, (compN caps b i).length ≤ 40 * i
 | 0 => by simp [compN]
 | i + 1 => by
  have := compN_len caps b i
  have := emit_len caps (b.getD i default) (szB (b.take i)) (startsOf b)
  simp only [compN, List.length_append]
  omega
theorem progOk_caps {p : Prog} (h : progOk p = true) : capsOk p.caps = true ∧ p.caps.length ≤ 3 ∧ p.bods.length ≤ 4 ∧ 1 ≤ p.bods.length ∧ ∀ b ∈ p.bods, bodyOk b p.caps.length = true := by
 unfold progOk at h
 simp only [Bool.and_eq_true, within_iff, decide_eq_true_eq, List.all_eq_true] at h
 exact ⟨h.1.2, by omega, by omega, by omega, h.1.1.1⟩
theorem base0_neg {p : Prog} (h : progOk p = true) : (decide (0 < (p.caps.length : Int)) && decide (base p.caps 0 < 0)) = !lieOk p.caps := by
 have hc := (progOk_caps h).1
 cases hl : lieOk p.caps with
 | false =>
  have hlen : 0 < p.caps.length := by
   apply Nat.pos_of_ne_zero
   intro e
   have e' : p.caps = [] := List.eq_nil_of_length_eq_zero e
   unfold lieOk at hl
   rw [hc, e'] at hl
   simp [sumC] at hl
  have hb : base p.caps 0 = -1 := by unfold base; rw [hl, Bool.and_false]; rfl
  rw [hb]
  simp
  omega
 | true =>
  by_cases hlen : 0 < p.caps.length
  ·have hb : base p.caps 0 = 0 := by
    unfold base
    have hw : within 0 0 ((p.caps.length : Int) - 1) = true := by rw [within_iff]; omega
    rw [hl, hw]
    rfl
   rw [hb]
   simp
  ·simp; omega
theorem take_min (l : List Int) (i n : Nat) (h : i < n) : l.take (min (i + 1) n) = l.take (i + 1) ∧ l.take (min i n) = l.take i := by
 rw [Nat.min_eq_left (by omega), Nat.min_eq_left (by omega)]
 exact ⟨rfl, rfl⟩
set_option maxHeartbeats 2000000 in
theorem implBase_ok (caps : List Int) (n : Int) (hl : caps.length < 2 ^ 40) : CallOk Tryz.prog num 206 [.sl .bw 1 (ints caps), .int .i64 n] [] (.int .i64 (base caps n)) := by
 refine EN m206 Tryz.func160 ?_
 unfold m206
 have w1 : IntKind.i64.wrap ((caps.length : Int) - 1) = caps.length - 1 := qAc (by omega) (by omega)
 simp only [go_sem, qA, qB, qC, qD, qE, qF, qG, qH, w1]
 repeat refine K ?_
 refine CA [] (qAl n 0 (caps.length - 1)) ?_
 try simp only [go_sem, qA, qB, qC, qD, qE, qF, qG, qH]
 repeat refine K ?_
 cases hw : within n 0 (caps.length - 1)
 ·try simp only [go_sem, qA, qB, qC, qD, qE, qF, qG, qH, hw]
  repeat refine K ?_
  refine fz ?_; simp [FinS, nilL, nilV, oneOr, -List.drop_one]
  simp [base, hw]
 try simp only [go_sem, qA, qB, qC, qD, qE, qF, qG, qH, hw]
 repeat refine K ?_
 refine CA [] (capsOk_ok caps (by omega)) ?_
 try simp only [go_sem, qA, qB, qC, qD, qE, qF, qG, qH]
 repeat refine K ?_
 cases hk : capsOk caps
 ·try simp only [go_sem, qA, qB, qC, qD, qE, qF, qG, qH, hk]
  repeat refine K ?_
  refine fz ?_; simp [FinS, nilL, nilV, oneOr, -List.drop_one]
  simp [base, lieOk, hk]
 try simp only [go_sem, qA, qB, qC, qD, qE, qF, qG, qH, hk]
 repeat refine K ?_
 have hw' := within_iff.1 hw
 refine qA6 (ι := Nat) (fun i => .mk [(1, .int .i64 n), (5, .int .i64 (sumC (caps.take (min i n.toNat)))), (6, .int .i64 (sumC (caps.take i))), (20, .sl .bw 1 (ints caps)), (21, .int .i64 caps.length), (22, .int .i64 i)] [] 10) (fun i => i ≤ caps.length) (fun i => caps.length - i) 0 (by simp) ?_ ?_
 ·refine Sub.shape [] id (by omega) ?_ ?_ ?_ ?_ <;> simp [qA2]
  simp [sumC]
 ·intro i hi
  simp only [go_sem, qA, qB, qC, qD, qE, qF, qG, qH]
  refine qA1 (fun hc => ?_) (fun hc => ?_)
  ·simp only [decide_eq_true_eq] at hc
   have hl' : i < caps.length := by omega
   have h1 := qCn hk i
   have h2 := qCn hk (i + 1)
   have h3 := sumC_take caps i hl'
   have h4 := qCn hk (min i n.toNat)
   have q1 : IntKind.i64.wrap (caps.getD i 0 + 4) = caps.getD i 0 + 4 := qAc (by omega) (by omega)
   have q2 : IntKind.i64.wrap (sumC (caps.take i) + (caps.getD i 0 + 4)) = sumC (caps.take (i + 1)) := by rw [qAc (by omega) (by omega)]; omega
   simp only [go_sem, qA, qB, qC, qD, qE, qF, qG, qH, qA0 caps i hl']
   repeat refine K ?_
   refine qA1 (fun hc2 => ?_) (fun hc2 => ?_)
   ·simp only [decide_eq_true_eq] at hc2
    obtain ⟨e1, e2⟩ := take_min caps i n.toNat (by omega)
    simp only [go_sem, qA, qB, qC, qD, qE, qF, qG, qH, q1, q2, e2, qA4 (i := i) (by omega)]
    repeat refine K ?_
    refine qA5 (i + 1) (Sub.shape [] id (by omega) ?_ ?_ ?_ ?_) ?_ ?_
    any_goals (first | omega | (simp [qA2]; done))
    rw [e1]
    simp [qA2]
   ·simp only [decide_eq_false_iff_not] at hc2
    have e1 : min (i + 1) n.toNat = min i n.toNat := by omega
    simp only [go_sem, qA, qB, qC, qD, qE, qF, qG, qH, q1, q2, qA4 (i := i) (by omega)]
    repeat refine K ?_
    refine qA5 (i + 1) (Sub.shape [] id (by omega) ?_ ?_ ?_ ?_) ?_ ?_
    any_goals (first | omega | (simp [qA2]; done))
    rw [e1]
    simp [qA2]
  ·simp only [decide_eq_false_iff_not] at hc
   have he : caps.take i = caps := List.take_of_length_le (by omega)
   have hm : min i n.toNat = n.toNat := by omega
   simp only [go_sem, qA, qB, qC, qD, qE, qF, qG, qH, he, hm]
   repeat refine K ?_
   by_cases h24 : (24 : Int) < sumC caps
   ·try simp only [go_sem, qA, qB, qC, qD, qE, qF, qG, qH, h24]
    repeat refine K ?_
    refine fz ?_; simp [FinS, nilL, nilV, oneOr, -List.drop_one]
    have : ¬ sumC caps ≤ 24 := by omega
    simp [base, hw, lieOk, hk, this]
   ·try simp only [go_sem, qA, qB, qC, qD, qE, qF, qG, qH, h24]
    repeat refine K ?_
    refine fz ?_; simp [FinS, nilL, nilV, oneOr, -List.drop_one]
    have : sumC caps ≤ 24 := by omega
    simp [base, hw, lieOk, hk, this]
theorem l9Base_ok (caps : List Int) (n : Nat) (hl : caps.length < 2 ^ 40) (hk : capsOk caps = true) (hn : n ≤ caps.length) : CallOk Tryz.prog num 251 [.sl .bw 1 (ints caps), .int .i64 n] [] (.int .i64 (sumC (caps.take n))) := by
 refine EN m251 Tryz.func207 ?_
 unfold m251
 simp only [go_sem, qA, qB, qC, qD, qE, qF, qG, qH]
 repeat refine K ?_
 refine qA6 (ι := Nat) (fun i => .mk [(0, .sl .bw 1 (ints caps)), (1, .int .i64 n), (5, .int .i64 (sumC (caps.take i))), (6, .int .i64 i)] [] 10) (fun i => i ≤ n) (fun i => n - i) 0 (by simp) ?_ ?_
 ·refine Sub.shape [] id (by omega) ?_ ?_ ?_ ?_ <;> simp [qA2]
  simp [sumC]
 ·intro i hi
  simp only [go_sem, qA, qB, qC, qD, qE, qF, qG, qH]
  refine qA1 (fun hc => ?_) (fun hc => ?_)
  ·simp only [decide_eq_true_eq] at hc
   have hl' : i < caps.length := by omega
   have h1 := qCn hk i
   have h2 := qCn hk (i + 1)
   have h3 := sumC_take caps i hl'
   have q1 : IntKind.i64.wrap (sumC (caps.take i) + caps.getD i 0) = sumC (caps.take i) + caps.getD i 0 := qAc (by omega) (by omega)
   have q2 : IntKind.i64.wrap (sumC (caps.take i) + caps.getD i 0 + 4) = sumC (caps.take (i + 1)) := by rw [qAc (by omega) (by omega)]; omega
   simp only [go_sem, qA, qB, qC, qD, qE, qF, qG, qH, qA0 caps i hl', q1, q2, qA4 (i := i) (by omega)]
   repeat refine K ?_
   refine qA5 (i + 1) (Sub.shape [] id (by omega) ?_ ?_ ?_ ?_) ?_ ?_
   any_goals (first | omega | (simp [qA2]; done))
  ·simp only [decide_eq_false_iff_not] at hc
   have he : i = n := by omega
   subst he
   simp only [go_sem, qA, qB, qC, qD, qE, qF, qG, qH]
   repeat refine K ?_
   refine fz ?_; simp [FinS, nilL, nilV, oneOr, -List.drop_one]
theorem l9Right_ok (caps : List Int) (hl : caps.length < 2 ^ 40) : CallOk Tryz.prog num 202 [.sl .bw 1 (ints caps)] [] (.bool (lieOk caps)) := by
 refine EN m202 Tryz.func155 ?_
 unfold m202
 simp only [go_sem, qA, qB, qC, qD, qE, qF, qG, qH]
 repeat refine K ?_
 refine qA6 (ι := Nat) (fun i => .mk [(0, .sl .bw 1 (ints caps)), (3, .int .i64 i)] [] 10) (fun i => i ≤ caps.length ∧ (caps.take i).all (fun c => within c 1 4) = true) (fun i => caps.length - i) 0 (by simp) ?_ ?_
 ·refine Sub.shape [] id (by omega) ?_ ?_ ?_ ?_ <;> simp [qA2]
 ·rintro i ⟨hi, hp⟩
  simp only [go_sem, qA, qB, qC, qD, qE, qF, qG, qH]
  refine qA1 (fun hc => ?_) (fun hc => ?_)
  ·simp only [decide_eq_true_eq] at hc
   have hl' : i < caps.length := by omega
   simp only [go_sem, qA, qB, qC, qD, qE, qF, qG, qH, qA0 caps i hl']
   repeat refine K ?_
   refine CA [] (qAu (caps.getD i 0) 1 4) ?_
   try simp only [go_sem, qA, qB, qC, qD, qE, qF, qG, qH]
   repeat refine K ?_
   cases hw : within (caps.getD i 0) 1 4
   ·simp only [go_sem, qA, qB, qC, qD, qE, qF, qG, qH, hw]
    repeat refine K ?_
    refine fz ?_; simp [FinS, nilL, nilV, oneOr, -List.drop_one]
    have : capsOk caps = false := qBu hl' hw
    simp [lieOk, this]
   ·simp only [go_sem, qA, qB, qC, qD, qE, qF, qG, qH, hw, qA4 (i := i) (by omega)]
    repeat refine K ?_
    refine qA5 (i + 1) (Sub.shape [] id (by omega) ?_ ?_ ?_ ?_) ?_ ?_
    any_goals (first | omega | (simp [qA2]; done))
    exact ⟨hl', qCe hp hl' hw⟩
  ·simp only [decide_eq_false_iff_not] at hc
   have hk : capsOk caps = true := qD9 hp hc
   have hs := capsOk_sum hk
   simp only [go_sem, qA, qB, qC, qD, qE, qF, qG, qH]
   repeat refine K ?_
   by_cases h24 : (caps.length : Int) ≤ 24
   ·try simp only [go_sem, qA, qB, qC, qD, qE, qF, qG, qH, h24]
    repeat refine K ?_
    refine CA [] (l9Base_ok caps caps.length hl hk (Nat.le_refl _)) ?_
    try simp only [go_sem, qA, qB, qC, qD, qE, qF, qG, qH]
    repeat refine K ?_
    try simp only [go_sem, qA, qB, qC, qD, qE, qF, qG, qH, h24, List.take_length]
    repeat refine K ?_
    refine fz ?_; simp [FinS, nilL, nilV, oneOr, -List.drop_one]
    simp [lieOk, hk]
   ·try simp only [go_sem, qA, qB, qC, qD, qE, qF, qG, qH, h24]
    repeat refine K ?_
    refine fz ?_; simp [FinS, nilL, nilV, oneOr, -List.drop_one]
    have : ¬ sumC caps ≤ 24 := by omega
    simp [lieOk, this]
theorem specBase_ok (caps : List Int) (n : Int) (hl : caps.length < 2 ^ 40) : CallOk Tryz.prog num 257 [.sl .bw 1 (ints caps), .int .i64 n] [] (.int .i64 (base caps n)) := by
 have w1 : IntKind.i64.wrap ((caps.length : Int) - 1) = caps.length - 1 := qAc (by omega) (by omega)
 refine EN m257 Tryz.func172 ?_
 unfold m257
 simp only [go_sem, qA, qB, qC, qD, qE, qF, qG, qH]
 repeat refine K ?_
 refine CA [] (l9Right_ok caps hl) ?_
 try simp only [go_sem, qA, qB, qC, qD, qE, qF, qG, qH]
 repeat refine K ?_
 cases hk : lieOk caps
 ·try simp only [go_sem, qA, qB, qC, qD, qE, qF, qG, qH, hk, w1]
  repeat refine K ?_
  refine fz ?_; simp [FinS, nilL, nilV, oneOr, -List.drop_one]
  simp [base, hk]
 try simp only [go_sem, qA, qB, qC, qD, qE, qF, qG, qH, hk, w1]
 repeat refine K ?_
 refine CA [] (qAu n 0 (caps.length - 1)) ?_
 try simp only [go_sem, qA, qB, qC, qD, qE, qF, qG, qH]
 repeat refine K ?_
 cases hw : within n 0 (caps.length - 1)
 ·try simp only [go_sem, qA, qB, qC, qD, qE, qF, qG, qH, hw]
  repeat refine K ?_
  refine fz ?_; simp [FinS, nilL, nilV, oneOr, -List.drop_one]
  simp [base, hw]
 have hw' := within_iff.1 hw
 have hk' := hk
 unfold lieOk at hk'
 simp only [Bool.and_eq_true] at hk'
 have en : n = (n.toNat : Int) := by omega
 try simp only [go_sem, qA, qB, qC, qD, qE, qF, qG, qH, hw]
 repeat refine K ?_
 rw [en]
 refine CA [] (l9Base_ok caps n.toNat hl hk'.1 (by omega)) ?_
 try simp only [go_sem, qA, qB, qC, qD, qE, qF, qG, qH]
 repeat refine K ?_
 try simp only [go_sem, qA, qB, qC, qD, qE, qF, qG, qH]
 repeat refine K ?_
 refine fz ?_; simp [FinS, nilL, nilV, oneOr, -List.drop_one]
 try rw [← en]
 have em : max n 0 = n := by omega
 simp [em, base, hw, hk]
end Go.Sep
