/- Contracts of functions. -/
import Derived.Test.YtjbknbgdfhihcaaGreatVP0
import Derived.Test.YtjbknbgdfhihcaaGreatVRt0
import Derived.Test.YtjbknbgdfhihcaaGreatVSl0
namespace Go.Sep
open Go.Proofs
set_option linter.unusedSimpArgs false
set_option linter.unusedVariables false
set_option maxRecDepth 100000
open Nat renaming reduceAdd → qA, reduceMul → qB, reduceEqDiff → qC, reduceBEq → qD
open Int renaming reduceToNat → qE, reduceEq → qF, reduceLT → qG, reduceLE → qH
open List renaming getD_eq_getElem?_getD → gD
def m403 : MFn := ⟨68, [.cell 6 4 true, .t 7], .seq (xr [xb 3 0, xb 4 1, xo 6 (.alloc [.nil, .nil, .nil, .nil]), xo 7 (.mv (xi 0))]) (.seq (.seq (xr [xm 13 4 4, xc1 14 233 (.t 13), xo 15 (.un .«not» (.t 14)), xv 16 15, xg 17 (.fad 1 (.t 4)) 16 false, xg 18 (.load 1 false (.t 17)) 16 false, xg 19 (.len (.t 18)) 16 false, xg 20 (.fad 1 (.t 3)) 16 false, xg 21 (.load 1 false (.t 20)) 16 false, xg 22 (.len (.t 21)) 16 false, xg 23 (.bin .neq (.t 19) (.t 22)) 16 false, xo 24 (.pick (.t 16) (.c (.bool true)) (.t 23))]) (.cond 24 (.seq (xr [xo 25 (.build [.nil, .nil, .nil, .nil] []), ⟨none, .store 4 (.t 6) (.t 25), none⟩, xo 7 (.mv (xi 0))]) (.ret)) (.skip))) (.seq (xr [xm 26 4 4, xc1 27 356 (.t 26), xo 8 (.alloc [.nil, .nil, .nil, .nil]), ⟨none, .store 4 (.t 8) (.t 27), none⟩]) (.seq (.seq (xr [xo 9 (.mv (xi 0))]) (.blk 0 (.loop (.seq (.seq (xr [xv 28 9, xv 29 2, xc2 30 147 (.t 29) (xi 60), xo 31 (.bin .lss (.t 28) (.t 30))]) (.cond 31 (.skip) (.exit 0))) (.seq (.blk 1 (.seq (xr [xm 34 2 3, xm 35 4 8, xo 36 (.call 425 [false, true] [.t 34, .t 35]), ⟨none, .store 4 (.t 8) (.t 36), none⟩]) (.seq (xr [xo 10 (.mv (xi 0))]) (.blk 2 (.loop (.seq (.seq (xr [xv 37 10, xa 38 1 8, xl 39 38, xe 40 39, xo 41 (.bin .lss (.t 37) (.t 40))]) (.cond 41 (.skip) (.exit 2))) (.seq (.blk 3 (.dreg (.take 0 (xm 44 2 3) (.take 1 (xm 45 4 8) (.only 2 [] (xv 46 10) (.only 3 [1] (xo 47 (.call 364 [true, false, false] [.t 45, .t 46, xi 40])) (.only 4 [0, 3, 1] (xo 48 (.call 425 [false, true] [.t 44, .t 47])) (.only 5 [0, 1] ⟨none, .store 4 (.t 8) (.t 48), none⟩ (.done))))))))) (xr [xv 42 10, xo 43 (.bin .add (.t 42) (xi 1)), xv 10 43])))))))) (xr [xv 32 9, xo 33 (.bin .add (.t 32) (xi 1)), xv 9 33])))))) (.seq (xr [xo 11 (.mv (xi 0))]) (.seq (.seq (xr [xo 12 (.mv (xi 0))]) (.blk 4 (.loop (.seq (.seq (xr [xv 49 12, xa 50 1 8, xl 51 50, xe 52 51, xo 53 (.bin .lss (.t 49) (.t 52))]) (.cond 53 (.skip) (.exit 4))) (.seq (.blk 5 (xr [xv 56 11, xa 57 1 8, xl 58 57, xv 59 12, xo 60 (.iad 4 (.t 58) (.t 59)), xa 61 3 60, xl 62 61, xo 63 (.bin .neq (.t 62) (xi 0)), xc1 64 85 (.t 63), xo 65 (.bin .add (.t 56) (.t 64)), xv 11 65])) (xr [xv 54 12, xo 55 (.bin .add (.t 54) (xi 1)), xv 12 55])))))) (.seq (xr [xm 66 4 8, xv 67 11, ⟨none, .store 4 (.t 6) (.t 66), none⟩, xv 7 67]) (.ret)))))))⟩
def m404 : MFn := ⟨58, [.cell 6 4 true, .t 7], .seq (xr [xb 3 0, xb 4 1, xo 6 (.alloc [.nil, .nil, .nil, .nil]), xo 7 (.mv (xi 0))]) (.seq (.seq (xr [xm 14 2 3, xm 15 4 4, xc2 16 426 (.t 14) (.t 15), xo 17 (.un .«not» (.t 16))]) (.cond 17 (.seq (xr [xo 18 (.build [.nil, .nil, .nil, .nil] []), ⟨none, .store 4 (.t 6) (.t 18), none⟩, xo 7 (.mv (xi 0))]) (.ret)) (.skip))) (.seq (xr [xm 19 4 4, xc1 20 358 (.t 19), xo 8 (.alloc [.nil, .nil, .nil, .nil]), ⟨none, .store 4 (.t 8) (.t 20), none⟩]) (.seq (.seq (xr [xo 9 (.mv (xi 0))]) (.blk 0 (.loop (.seq (.seq (xr [xv 21 9, xv 22 2, xo 23 (.bin .lss (.t 21) (.t 22)), xv 24 23, xg 25 (.mv (.t 9)) 24 true, xg 26 (.bin .lss (.t 25) (xi 60)) 24 true, xo 27 (.pick (.t 24) (.t 26) (.c (.bool false)))]) (.cond 27 (.skip) (.exit 0))) (.seq (.blk 1 (.seq (xr [xm 30 2 3, xo 31 (.call 427 [true, false] [.t 8, .t 30])]) (.seq (xr [xa 32 1 8, xl 33 32, xe 34 33, xo 35 (.mv (xi 0))]) (.blk 2 (.loop (.seq (xr [xo 36 (.bin .lss (.t 35) (.t 34))]) (.seq (.cond 36 (.skip) (.exit 2)) (.seq (.blk 3 (.seq (xr [xv 37 35, xv 10 37]) (.seq (xr [xv 38 10, xo 39 (.call 346 [true, false, false] [.t 8, .t 38, xi 40])]) (xr [xm 40 2 3, xo 41 (.call 427 [true, false] [.t 8, .t 40])])))) (xr [xo 42 (.bin .add (.t 35) (xi 1)), xv 35 42]))))))))) (xr [xv 28 9, xo 29 (.bin .add (.t 28) (xi 1)), xv 9 29])))))) (.seq (xr [xo 11 (.mv (xi 0))]) (.seq (.seq (xr [xa 43 1 8, xl 44 43, xe 45 44, xo 46 (.mv (xi 0))]) (.blk 4 (.loop (.seq (xr [xo 47 (.bin .lss (.t 46) (.t 45))]) (.seq (.cond 47 (.skip) (.exit 4)) (.seq (.blk 5 (.seq (xr [xo 48 (.iad 4 (.t 44) (.t 46)), xm 49 4 48, xo 13 (.alloc [.int .i64 0, .nil, .nil, .int .i64 0]), ⟨none, .store 4 (.t 13) (.t 49), none⟩]) (.seq (xr [xa 50 3 13, xl 51 50, xo 52 (.bin .neq (.t 51) (xi 0))]) (.cond 52 (xr [xv 53 11, xo 54 (.bin .add (.t 53) (xi 1)), xv 11 54]) (.skip))))) (xr [xo 55 (.bin .add (.t 46) (xi 1)), xv 46 55]))))))) (.seq (xr [xm 56 4 8, xv 57 11, ⟨none, .store 4 (.t 6) (.t 56), none⟩, xv 7 57]) (.ret)))))))⟩
def fRest (p : Prog) (M : Machine) : Machine := restN p M.cores.length 4 M
def finStep (p : Prog) (M : Machine) (i : Nat) : Machine := fRest p (maloneN (aloneN 40) M i)
def finWho (p : Prog) (l : List Nat) (M : Machine) : Machine := l.foldl (finStep p) M
def finN (p : Prog) (n : Nat) : Nat → Machine → Machine
 | 0, M => M
 | k + 1, M => finN p n k (finWho p (List.range n) (fRest p M))
theorem fRest_ok (p : Prog) {M : Machine} (h : machineOk M = true) : machineOk (fRest p M) = true ∧ (fRest p M).cores.length = M.cores.length := restN_ok p _ 4 h
theorem finStep_ok (p : Prog) {M : Machine} (i : Nat) (h : machineOk M = true) : machineOk (finStep p M i) = true ∧ (finStep p M i).cores.length = M.cores.length := by
 have h1 := maloneN_ok (aloneN 40) (i : Int) h
 have h2 := (maloneN_len (aloneN 40) M (i : Int)).1
 have h3 := fRest_ok p h1
 exact ⟨h3.1, by unfold finStep; rw [h3.2, h2]⟩
theorem finWho_ok (p : Prog) : ∀ (l : List Nat) {M : Machine}, machineOk M = true → machineOk (finWho p l M) = true ∧ (finWho p l M).cores.length = M.cores.length
 | [], M, h => ⟨h, rfl⟩
 | i :: l, M, h => by
  have h1 := finStep_ok p i h
  have h2 := finWho_ok p l h1.1
  exact ⟨h2.1, h2.2.trans h1.2⟩
theorem finN_ok (p : Prog) (n : Nat) : ∀ (k : Nat) {M : Machine}, machineOk M = true → machineOk (finN p n k M) = true ∧ (finN p n k M).cores.length = M.cores.length
 | 0, M, h => ⟨h, rfl⟩
 | k + 1, M, h => by
  have h1 := fRest_ok p h
  have h2 := finWho_ok p (List.range n) h1.1
  have h3 := finN_ok p n k h2.1
  exact ⟨h3.1, by show (finN p n k _).cores.length = _; rw [h3.2, h2.2, h1.2]⟩
def overs (M : Machine) : Nat → Nat
 | 0 => 0
 | k + 1 => overs M k + (if (coreAt M k).st = 0 then 0 else 1)
theorem overs_le (M : Machine) : ∀ k, overs M k ≤ k
 | 0 => Nat.le_refl _
 | k + 1 => by
  have := overs_le M k
  unfold overs
  split <;> omega
def finR (rounds : Int) : Nat := (min rounds 60).toNat
def finish (p : Prog) (m : Machine) (rounds : Int) : Machine × Nat :=
 if machineOk m && decide (m.cores.length = p.bods.length) then (finN p m.cores.length (finR rounds) m, overs (finN p m.cores.length (finR rounds) m) m.cores.length) else (nilM, 0)
theorem finish_z (p : Prog) (m : Machine) (rounds : Int) : zMachine (finish p m rounds).1 ≤ 4000000 := by
 unfold finish
 split
 ·rename_i h
  simp only [Bool.and_eq_true] at h
  exact machineOk_z (finN_ok p _ _ h.1).1
 ·decide
theorem implFRest_ok (p : Prog) (m : Machine) (hp : SmallP p) (h : machineOk m = true) : CallOk Tryz.prog num 427 [.ptr 0 0 0, .agg (progC .bw p)] [(0, some (4, [machineC .own m]), some (4, [machineC .own (fRest p m)]))] (.sl .own 1 (ints (restO p m.cores.length 4 (m, [])).2)) := implRest_ok p m hp h
theorem l15FRest_ok (p : Prog) (m : Machine) (hp : SmallP p) (h : machineOk m = true) : CallOk Tryz.prog num 425 [.agg (progC .bw p), mchV m] (mchF m) (.agg (machineC .own (fRest p m))) := l15Rest_ok p m hp h
set_option maxHeartbeats 8000000 in
theorem implFinish_ok (p : Prog) (m : Machine) (rounds : Int) (hp : SmallP p) (hm : SmallM m) : CallOk Tryz.prog num 404 [.agg (progC .bw p), .agg (machineC .bw m), .int .i64 rounds] [] (.tup [.agg (machineC .own (finish p m rounds).1), .int .i64 (finish p m rounds).2]) := by
 refine EN m404 Tryz.func42 ?_
 unfold m404
 simp only [go_sem, qA, qB, qC, qD, qE, qF, qG, qH]
 repeat refine K ?_
 refine CA [] (restable_ok p m hm) ?_
 try simp only [go_sem, qA, qB, qC, qD, qE, qF, qG, qH]
 repeat refine K ?_
 cases hok : (machineOk m && decide (m.cores.length = p.bods.length))
 ·have hr : finish p m rounds = (nilM, 0) := by unfold finish; rw [hok]; rfl
  rw [hr]
  try simp only [go_sem, qA, qB, qC, qD, qE, qF, qG, qH, hok]
  repeat refine K ?_
  apply qAh (by simp)
  ·exact Sub.refl _
  ·simp [-List.drop_one, -gD, machineC, nilM] <;> (first | rfl | exact ⟨rfl, rfl⟩ | exact ⟨rfl, rfl, rfl⟩ | skip)
 have hr : finish p m rounds = (finN p m.cores.length (finR rounds) m, overs (finN p m.cores.length (finR rounds) m) m.cores.length) := by unfold finish; rw [hok]; rfl
 rw [hr]
 have hMo : machineOk m = true := by simp only [Bool.and_eq_true] at hok; exact hok.1
 have hM0 := (qAx m).1 hMo
 have hc0 := hM0.cores
 have hn4 := hM0.n4
 try simp only [go_sem, qA, qB, qC, qD, qE, qF, qG, qH, hok]
 repeat refine K ?_
 refine CA [] (copyMachine_ok m hm) ?_
 try simp only [go_sem, qA, qB, qC, qD, qE, qF, qG, qH]
 repeat refine K ?_
 try simp only [go_sem, qA, qB, qC, qD, qE, qF, qG, qH]
 repeat refine K ?_
 clear hr hok
 generalize hn : m.cores.length = n at *
 have hR : (finR rounds : Int) ≤ 60 ∧ ((finR rounds : Int) ≤ rounds ∨ finR rounds = 0) ∧ (rounds ≤ finR rounds ∨ (finR rounds : Int) = 60) := by unfold finR; omega
 generalize finR rounds = R at *
 refine qA6 (ι := Nat × Machine) (fun q => .mk [(2, .int .i64 rounds), (3, .ptr 10 0 0), (6, .ptr 12 0 0), (8, .ptr 13 0 0), (9, .int .i64 q.1)] [(10, 2, [progC .bw p]), (12, 4, [[.nil, .nil, .nil, .nil]]), (13, 4, [machineC .own q.2])] 14) (fun q => q.1 ≤ R ∧ machineOk q.2 = true ∧ q.2.cores.length = n ∧ finN p n (R - q.1) q.2 = finN p n R m) (fun q => R - q.1) (0, m) ⟨by simp, hMo, hn, rfl⟩ ?_ ?_
 ·refine Sub.trans (Sub.fold1 17 0 13 rfl (by simp [-gD] <;> omega) rfl (by decide) (by decide) rfl) ?_
  simp only [fS, fS2, qA, qC]
  refine Sub.trans (Sub.fold1 17 1 14 rfl (by simp [-gD] <;> omega) rfl (by decide) (by decide) rfl) ?_
  simp only [fS, fS2, qA, qC]
  refine Sub.trans (Sub.fold1 17 2 15 rfl (by simp [-gD] <;> omega) rfl (by decide) (by decide) rfl) ?_
  simp only [fS, fS2, qA, qC]
  refine Sub.trans (Sub.fold1 17 3 16 rfl (by simp [-gD] <;> omega) rfl (by decide) (by decide) rfl) ?_
  simp only [fS, fS2, qA, qC]
  refine Sub.shape [] (fun n => if n = 13 then 17 else n) (by omega) ?_ ?_ ?_ ?_ <;> simp [qA3]
  all_goals exact fun e => absurd hn e
 ·rintro ⟨k, M⟩ ⟨hk, hMk, hlen, he⟩
  simp only at hk hMk hlen he
  by_cases hkR : k < R
  case neg =>
   obtain rfl : k = R := by omega
   have he' : M = finN p n k m := by rw [← he, Nat.sub_self]; rfl
   rw [← he']
   have hM := (qAx M).1 hMk
   have hc1 := hM.cores
   have hn41 := hM.n4
   clear he' he
   subst hlen
   by_cases h1 : (k : Int) < rounds
   ·have h3 : ¬ (k : Int) < 60 := by omega
    simp only [go_sem, qA, qB, qC, qD, qE, qF, qG, qH, h1, h3]
    repeat refine K ?_
    refine qA6 (ι := Nat) (fun i => .mk [(6, .ptr 12 0 0), (8, .ptr 13 0 0), (11, .int .i64 (overs M i)), (44, .ns 14 0 M.cores.length), (45, .int .i64 M.cores.length), (46, .int .i64 i)] [(12, 4, [[.nil, .nil, .nil, .nil]]), (13, 4, [[.sl .own 1 (codes .own M.codes), .ns 14 0 M.cores.length, .sl .own 1 (cels .own M.mem.cells), .sl .own 2 (notes M.tr)]]), (14, 4, cores .own M.cores)] 15) (fun i => i ≤ M.cores.length) (fun i => M.cores.length - i) 0 (by simp) ?_ ?_
    ·refine Sub.link id (by omega) ?_ ?_ ?_ <;> (simp [qA3, okBR, okB, okBs, renR, renL, renV, overs]; done)
    ·rintro i hi
     simp only [go_sem, qA, qB, qC, qD, qE, qF, qG, qH]
     refine qA1 (fun hc => ?_) (fun hc => ?_)
     ·simp only [decide_eq_true_eq] at hc
      have hi' : i < M.cores.length := by omega
      have hcg := qAg .own M.cores i hi'
      have hcself : (cores .own M.cores).set i [.int .i64 (coreAt M i).at_, .sl .own 1 (ints (coreAt M i).regs), .sl .own 1 (ints (coreAt M i).view), .int .i64 (coreAt M i).st] = cores .own M.cores := by rw [show coreAt M i = M.cores.getD i default from rfl, ← hcg, qAa _ _ _ (by rw [qAm]; exact hi')]
      have hkk : M.cores.getD i default = coreAt M i := rfl
      rw [hkk] at hcg
      have ho := overs_le M i
      by_cases hst : (coreAt M i).st = 0
      ·have e : overs M (i + 1) = overs M i := by
        show overs M i + _ = _
        rw [if_pos hst]
        rfl
       simp only [go_sem, qA, qB, qC, qD, qE, qF, qG, qH, qA4 (i := i) (by omega), hcg, hst]
       repeat refine K ?_
       refine qA5 (i + 1) ?_ hi' (by omega)
       rw [e]
       rw [hst] at hcself
       refine FA 14 1 15 ?_
       simp only [fS, fS2, fS2, qA, qC]
       refine FA 14 2 16 ?_
       simp only [fS, fS2, fS2, qA, qC, hcself]
       refine Sub.link id (by omega) ?_ ?_ ?_ <;> (simp [qA3, okBR, okB, okBs, renR, renL, renV]; done)
      ·have e : overs M (i + 1) = overs M i + 1 := by
        show overs M i + _ = _
        rw [if_neg hst]
       simp only [go_sem, qA, qB, qC, qD, qE, qF, qG, qH, qA4 (i := i) (by omega), qA4 (i := overs M i) (by omega), hcg, hst]
       repeat refine K ?_
       refine qA5 (i + 1) ?_ hi' (by omega)
       rw [e]
       refine FA 14 1 15 ?_
       simp only [fS, fS2, fS2, qA, qC]
       refine FA 14 2 16 ?_
       simp only [fS, fS2, fS2, qA, qC, hcself]
       refine Sub.link id (by omega) ?_ ?_ ?_ <;> (simp [qA3, okBR, okB, okBs, renR, renL, renV]; done)
     ·simp only [decide_eq_false_iff_not] at hc
      obtain rfl : i = M.cores.length := by omega
      simp only [go_sem, qA, qB, qC, qD, qE, qF, qG, qH]
      repeat refine K ?_
      apply qAh (by simp)
      ·exact Sub.refl _
      ·simp [-List.drop_one, -gD, machineC] <;> (first | rfl | exact ⟨rfl, rfl⟩ | exact ⟨rfl, rfl, rfl⟩ | skip)
   ·simp only [go_sem, qA, qB, qC, qD, qE, qF, qG, qH, h1]
    repeat refine K ?_
    refine qA6 (ι := Nat) (fun i => .mk [(6, .ptr 12 0 0), (8, .ptr 13 0 0), (11, .int .i64 (overs M i)), (44, .ns 14 0 M.cores.length), (45, .int .i64 M.cores.length), (46, .int .i64 i)] [(12, 4, [[.nil, .nil, .nil, .nil]]), (13, 4, [[.sl .own 1 (codes .own M.codes), .ns 14 0 M.cores.length, .sl .own 1 (cels .own M.mem.cells), .sl .own 2 (notes M.tr)]]), (14, 4, cores .own M.cores)] 15) (fun i => i ≤ M.cores.length) (fun i => M.cores.length - i) 0 (by simp) ?_ ?_
    ·refine Sub.link id (by omega) ?_ ?_ ?_ <;> (simp [qA3, okBR, okB, okBs, renR, renL, renV, overs]; done)
    ·rintro i hi
     simp only [go_sem, qA, qB, qC, qD, qE, qF, qG, qH]
     refine qA1 (fun hc => ?_) (fun hc => ?_)
     ·simp only [decide_eq_true_eq] at hc
      have hi' : i < M.cores.length := by omega
      have hcg := qAg .own M.cores i hi'
      have hcself : (cores .own M.cores).set i [.int .i64 (coreAt M i).at_, .sl .own 1 (ints (coreAt M i).regs), .sl .own 1 (ints (coreAt M i).view), .int .i64 (coreAt M i).st] = cores .own M.cores := by rw [show coreAt M i = M.cores.getD i default from rfl, ← hcg, qAa _ _ _ (by rw [qAm]; exact hi')]
      have hkk : M.cores.getD i default = coreAt M i := rfl
      rw [hkk] at hcg
      have ho := overs_le M i
      by_cases hst : (coreAt M i).st = 0
      ·have e : overs M (i + 1) = overs M i := by
        show overs M i + _ = _
        rw [if_pos hst]
        rfl
       simp only [go_sem, qA, qB, qC, qD, qE, qF, qG, qH, qA4 (i := i) (by omega), hcg, hst]
       repeat refine K ?_
       refine qA5 (i + 1) ?_ hi' (by omega)
       rw [e]
       rw [hst] at hcself
       refine FA 14 1 15 ?_
       simp only [fS, fS2, fS2, qA, qC]
       refine FA 14 2 16 ?_
       simp only [fS, fS2, fS2, qA, qC, hcself]
       refine Sub.link id (by omega) ?_ ?_ ?_ <;> (simp [qA3, okBR, okB, okBs, renR, renL, renV]; done)
      ·have e : overs M (i + 1) = overs M i + 1 := by
        show overs M i + _ = _
        rw [if_neg hst]
       simp only [go_sem, qA, qB, qC, qD, qE, qF, qG, qH, qA4 (i := i) (by omega), qA4 (i := overs M i) (by omega), hcg, hst]
       repeat refine K ?_
       refine qA5 (i + 1) ?_ hi' (by omega)
       rw [e]
       refine FA 14 1 15 ?_
       simp only [fS, fS2, fS2, qA, qC]
       refine FA 14 2 16 ?_
       simp only [fS, fS2, fS2, qA, qC, hcself]
       refine Sub.link id (by omega) ?_ ?_ ?_ <;> (simp [qA3, okBR, okB, okBs, renR, renL, renV]; done)
     ·simp only [decide_eq_false_iff_not] at hc
      obtain rfl : i = M.cores.length := by omega
      simp only [go_sem, qA, qB, qC, qD, qE, qF, qG, qH]
      repeat refine K ?_
      apply qAh (by simp)
      ·exact Sub.refl _
      ·simp [-List.drop_one, -gD, machineC] <;> (first | rfl | exact ⟨rfl, rfl⟩ | exact ⟨rfl, rfl, rfl⟩ | skip)
  have h1 : (k : Int) < rounds := by omega
  have h2 : (k : Int) < 60 := by omega
  rw [sub_succ hkR] at he
  have f1 := fRest_ok p hMk
  have hI := implFRest_ok p M hp hMk
  have hef : finN p n (R - (k + 1)) (finWho p (List.range n) (fRest p M)) = finN p n R m := he
  generalize fRest p M = M0 at *
  simp only [go_sem, qA, qB, qC, qD, qE, qF, qG, qH, h1, h2]
  repeat refine K ?_
  refine CA [(0, 13)] (hI) ?_
  try simp only [go_sem, qA, qB, qC, qD, qE, qF, qG, qH]
  repeat refine K ?_
  have hn0 : M0.cores.length = n := by omega
  try simp only [go_sem, qA, qB, qC, qD, qE, qF, qG, qH, hn0]
  repeat refine K ?_
  refine qA6 (ι := Nat × Machine) (fun q => .mk [(2, .int .i64 rounds), (3, .ptr 10 0 0), (6, .ptr 12 0 0), (8, .ptr 13 0 0), (9, .int .i64 k), (34, .int .i64 n), (35, .int .i64 q.1)] [(10, 2, [progC .bw p]), (12, 4, [[.nil, .nil, .nil, .nil]]), (13, 4, [machineC .own q.2])] 14) (fun q => q.1 ≤ n ∧ machineOk q.2 = true ∧ q.2.cores.length = n ∧ finWho p ((List.range n).drop q.1) q.2 = finWho p (List.range n) M0) (fun q => n - q.1) (0, M0) ⟨by simp, f1.1, hn0, rfl⟩ ?_ ?_
  ·refine Sub.trans (Sub.fold1 13 1 15 rfl (by simp [-gD] <;> omega) rfl (by decide) (by decide) rfl) ?_
   simp only [fS, fS2, qA, qC]
   refine Sub.shape [] id (by omega) ?_ ?_ ?_ ?_ <;> simp [qA3]
   all_goals exact fun e => absurd hn0 e
  ·rintro ⟨j, M1⟩ ⟨hj, hM1, hlen1, he1⟩
   simp only at hj hM1 hlen1 he1
   simp only [go_sem, qA, qB, qC, qD, qE, qF, qG, qH]
   refine qA1 (fun hc1 => ?_) (fun hc1 => ?_)
   ·simp only [decide_eq_true_eq] at hc1
    have hj' : j < n := by omega
    rw [drop_range hj'] at he1
    have a1 := maloneN_ok (aloneN 40) (j : Int) hM1
    have a2 := finStep_ok p j hM1
    have hA := implAloneIn_ok M1 j 40 hM1
    have hB : CallOk Tryz.prog num 427 _ _ _ := implFRest_ok p (maloneN (aloneN 40) M1 j) hp a1
    have hef1 : finWho p ((List.range n).drop (j + 1)) (finStep p M1 j) = finWho p (List.range n) M0 := he1
    change CallOk Tryz.prog num 427 [.ptr 0 0 0, .agg (progC .bw p)] [(0, some (4, [machineC .own (maloneN (aloneN 40) M1 j)]), some (4, [machineC .own (finStep p M1 j)]))] _ at hB
    generalize finStep p M1 j = M2 at *
    generalize maloneN (aloneN 40) M1 j = M3 at *
    simp only [go_sem, qA, qB, qC, qD, qE, qF, qG, qH, qA4 (i := j) (by omega)]
    repeat refine K ?_
    refine CA [(0, 13)] (hA) ?_
    try simp only [go_sem, qA, qB, qC, qD, qE, qF, qG, qH]
    repeat refine K ?_
    try simp only [go_sem, qA, qB, qC, qD, qE, qF, qG, qH]
    repeat refine K ?_
    refine CA [(0, 13)] (hB) ?_
    try simp only [go_sem, qA, qB, qC, qD, qE, qF, qG, qH]
    repeat refine K ?_
    try simp only [go_sem, qA, qB, qC, qD, qE, qF, qG, qH, qA4 (i := j) (by omega)]
    repeat refine K ?_
    refine qA5 (j + 1, M2) ?_ ⟨hj', a2.1, by rw [a2.2]; exact hlen1, hef1⟩ (by simp only; omega)
    refine Sub.shape [] id (by omega) ?_ ?_ ?_ ?_ <;> simp [qA3]
   ·simp only [decide_eq_false_iff_not] at hc1
    obtain rfl : j = n := by omega
    have he1' : M1 = finWho p (List.range j) M0 := by
     rw [← he1, List.drop_eq_nil_of_le (by simp)]
     rfl
    simp only [go_sem, qA, qB, qC, qD, qE, qF, qG, qH, qA4 (i := k) (by omega)]
    repeat refine K ?_
    refine qA5 (k + 1, M1) ?_ ⟨hkR, hM1, hlen1, by rw [he1']; exact hef⟩ (by simp only; omega)
    refine Sub.shape [] id (by omega) ?_ ?_ ?_ ?_ <;> simp [qA3]
set_option maxHeartbeats 8000000 in
theorem specFinish_ok (p : Prog) (m : Machine) (rounds : Int) (hp : SmallP p) (hm : SmallM m) : CallOk Tryz.prog num 403 [.agg (progC .bw p), .agg (machineC .bw m), .int .i64 rounds] [] (.tup [.agg (machineC .own (finish p m rounds).1), .int .i64 (finish p m rounds).2]) := by
 refine EN m403 Tryz.func41 ?_
 unfold m403
 simp only [go_sem, qA, qB, qC, qD, qE, qF, qG, qH]
 repeat refine K ?_
 refine CA [] (specMachineOk_ok m hm) ?_
 try simp only [go_sem, qA, qB, qC, qD, qE, qF, qG, qH]
 repeat refine K ?_
 cases hmk : machineOk m
 ·have hr : finish p m rounds = (nilM, 0) := by unfold finish; rw [hmk]; rfl
  rw [hr]
  try simp only [go_sem, qA, qB, qC, qD, qE, qF, qG, qH, hmk]
  repeat refine K ?_
  apply qAh (by simp)
  ·exact Sub.refl _
  ·simp [-List.drop_one, -gD, machineC, nilM] <;> (first | rfl | exact ⟨rfl, rfl⟩ | exact ⟨rfl, rfl, rfl⟩ | skip)
 by_cases hl : m.cores.length = p.bods.length
 case neg =>
  have hl' : ¬ (m.cores.length : Int) = p.bods.length := by omega
  have hr : finish p m rounds = (nilM, 0) := by unfold finish; rw [hmk, decide_eq_false hl]; rfl
  rw [hr]
  try simp only [go_sem, qA, qB, qC, qD, qE, qF, qG, qH, hmk, hl']
  repeat refine K ?_
  apply qAh (by simp)
  ·exact Sub.refl _
  ·simp [-List.drop_one, -gD, machineC, nilM] <;> (first | rfl | exact ⟨rfl, rfl⟩ | exact ⟨rfl, rfl, rfl⟩ | skip)
 have hl' : (m.cores.length : Int) = p.bods.length := by omega
 have hr : finish p m rounds = (finN p m.cores.length (finR rounds) m, overs (finN p m.cores.length (finR rounds) m) m.cores.length) := by unfold finish; rw [hmk, decide_eq_true hl]; rfl
 rw [hr]
 have hM0 := (qAx m).1 hmk
 have hc0 := hM0.cores
 have hn4 := hM0.n4
 try simp only [go_sem, qA, qB, qC, qD, qE, qF, qG, qH, hmk, hl']
 repeat refine K ?_
 refine CA [] (l8Copy_ok m hm) ?_
 try simp only [go_sem, qA, qB, qC, qD, qE, qF, qG, qH]
 repeat refine K ?_
 try simp only [go_sem, qA, qB, qC, qD, qE, qF, qG, qH]
 repeat refine K ?_
 clear hr hl hl'
 generalize hn : m.cores.length = n at *
 have hR : (finR rounds : Int) ≤ 60 ∧ ((finR rounds : Int) ≤ rounds ∨ finR rounds = 0) ∧ (rounds ≤ finR rounds ∨ (finR rounds : Int) = 60) := by unfold finR; omega
 generalize finR rounds = R at *
 refine qA6 (ι := Nat × Machine) (fun q => .mk [(2, .int .i64 rounds), (3, .ptr 10 0 0), (6, .ptr 12 0 0), (8, .ptr 13 0 0), (9, .int .i64 q.1)] [(10, 2, [progC .bw p]), (12, 4, [[.nil, .nil, .nil, .nil]]), (13, 4, [machineC .own q.2])] 14) (fun q => q.1 ≤ R ∧ machineOk q.2 = true ∧ q.2.cores.length = n ∧ finN p n (R - q.1) q.2 = finN p n R m) (fun q => R - q.1) (0, m) ⟨by simp, hmk, hn, rfl⟩ ?_ ?_
 ·refine Sub.trans (Sub.fold1 17 0 13 rfl (by simp [-gD] <;> omega) rfl (by decide) (by decide) rfl) ?_
  simp only [fS, fS2, qA, qC]
  refine Sub.trans (Sub.fold1 17 1 14 rfl (by simp [-gD] <;> omega) rfl (by decide) (by decide) rfl) ?_
  simp only [fS, fS2, qA, qC]
  refine Sub.trans (Sub.fold1 17 2 15 rfl (by simp [-gD] <;> omega) rfl (by decide) (by decide) rfl) ?_
  simp only [fS, fS2, qA, qC]
  refine Sub.trans (Sub.fold1 17 3 16 rfl (by simp [-gD] <;> omega) rfl (by decide) (by decide) rfl) ?_
  simp only [fS, fS2, qA, qC]
  refine Sub.shape [] (fun n => if n = 13 then 17 else n) (by omega) ?_ ?_ ?_ ?_ <;> simp [qA3]
  all_goals exact fun e => absurd hn e
 ·rintro ⟨k, M⟩ ⟨hk, hMk, hlen, he⟩
  simp only at hk hMk hlen he
  simp only [go_sem, qA, qB, qC, qD, qE, qF, qG, qH]
  refine CA [] (l1Min_ok rounds 60) ?_
  try simp only [go_sem, qA, qB, qC, qD, qE, qF, qG, qH]
  repeat refine K ?_
  by_cases hkR : k < R
  case neg =>
   obtain rfl : k = R := by omega
   have he' : M = finN p n k m := by rw [← he, Nat.sub_self]; rfl
   rw [← he']
   have hM := (qAx M).1 hMk
   have hc1 := hM.cores
   have hn41 := hM.n4
   clear he' he
   subst hlen
   have h1 : ¬ (k : Int) < (if rounds < 60 then rounds else 60) := by split <;> omega
   try simp only [go_sem, qA, qB, qC, qD, qE, qF, qG, qH, h1]
   repeat refine K ?_
   refine qA6 (ι := Nat) (fun i => .mk [(6, .ptr 12 0 0), (8, .ptr 13 0 0), (11, .int .i64 (overs M i)), (12, .int .i64 i)] [(12, 4, [[.nil, .nil, .nil, .nil]]), (13, 4, [machineC .own M])] 14) (fun i => i ≤ M.cores.length) (fun i => M.cores.length - i) 0 (by simp) ?_ ?_
   ·refine Sub.shape [] id (by omega) ?_ ?_ ?_ ?_ <;> simp [qA3]
    all_goals simp [overs]
   ·rintro i hi
    simp only [go_sem, qA, qB, qC, qD, qE, qF, qG, qH]
    repeat refine K ?_
    refine qA1 (fun hc => ?_) (fun hc => ?_)
    ·simp only [decide_eq_true_eq] at hc
     have hi' : i < M.cores.length := by omega
     have hcg := qAg .own M.cores i hi'
     have hkk : M.cores.getD i default = coreAt M i := rfl
     rw [hkk] at hcg
     have ho := overs_le M i
     by_cases hst : (coreAt M i).st = 0
     ·have e : overs M (i + 1) = overs M i := by
       show overs M i + _ = _
       rw [if_pos hst]
       rfl
      simp only [go_sem, qA, qB, qC, qD, qE, qF, qG, qH, hcg, hst]
      repeat refine K ?_
      refine CA [] (l4Bit_ok false) ?_
      try simp only [go_sem, qA, qB, qC, qD, qE, qF, qG, qH]
      repeat refine K ?_
      have hb0 : numb false = 0 := rfl
      have hw0 : IntKind.i64.wrap ((overs M i : Int)) = overs M i := qAl (by omega) (by omega)
      try simp only [go_sem, qA, qB, qC, qD, qE, qF, qG, qH, qA4 (i := i) (by omega), hb0, hw0, Int.add_zero]
      repeat refine K ?_
      refine qA5 (i + 1) ?_ hi' (by omega)
      rw [e]
      refine Sub.trans (Sub.fold1 13 1 14 rfl (by simp [-gD] <;> omega) rfl (by decide) (by decide) rfl) ?_
      simp only [fS, fS2, qA, qC]
      refine Sub.shape [] id (by omega) ?_ ?_ ?_ ?_ <;> simp [qA3]
     ·have e : overs M (i + 1) = overs M i + 1 := by
       show overs M i + _ = _
       rw [if_neg hst]
      simp only [go_sem, qA, qB, qC, qD, qE, qF, qG, qH, hcg, hst]
      repeat refine K ?_
      refine CA [] (l4Bit_ok true) ?_
      try simp only [go_sem, qA, qB, qC, qD, qE, qF, qG, qH]
      repeat refine K ?_
      have hb1 : numb true = 1 := rfl
      try simp only [go_sem, qA, qB, qC, qD, qE, qF, qG, qH, qA4 (i := i) (by omega), hb1, qA4 (i := overs M i) (by omega)]
      repeat refine K ?_
      refine qA5 (i + 1) ?_ hi' (by omega)
      rw [e]
      refine Sub.trans (Sub.fold1 13 1 14 rfl (by simp [-gD] <;> omega) rfl (by decide) (by decide) rfl) ?_
      simp only [fS, fS2, qA, qC]
      refine Sub.shape [] id (by omega) ?_ ?_ ?_ ?_ <;> simp [qA3]
    ·simp only [decide_eq_false_iff_not] at hc
     obtain rfl : i = M.cores.length := by omega
     simp only [go_sem, qA, qB, qC, qD, qE, qF, qG, qH]
     repeat refine K ?_
     apply qAh (by simp)
     ·exact Sub.refl _
     ·simp [-List.drop_one, -gD, machineC] <;> (first | rfl | exact ⟨rfl, rfl⟩ | exact ⟨rfl, rfl, rfl⟩ | skip)
  have h1 : (k : Int) < (if rounds < 60 then rounds else 60) := by split <;> omega
  rw [sub_succ hkR] at he
  have f1 := fRest_ok p hMk
  have hI := l15FRest_ok p M hp hMk
  have hef : finN p n (R - (k + 1)) (finWho p (List.range n) (fRest p M)) = finN p n R m := he
  generalize fRest p M = M0 at *
  try simp only [go_sem, qA, qB, qC, qD, qE, qF, qG, qH, h1]
  repeat refine K ?_
  refine CA [(0, 14), (1, 15), (2, 16), (3, 17)] (hI) ?_
  try simp only [go_sem, qA, qB, qC, qD, qE, qF, qG, qH]
  repeat refine K ?_
  have hn0 : M0.cores.length = n := by omega
  try simp only [go_sem, qA, qB, qC, qD, qE, qF, qG, qH]
  repeat refine K ?_
  refine qA6 (ι := Nat × Machine) (fun q => .mk [(2, .int .i64 rounds), (3, .ptr 10 0 0), (6, .ptr 12 0 0), (8, .ptr 13 0 0), (9, .int .i64 k), (10, .int .i64 q.1)] [(10, 2, [progC .bw p]), (12, 4, [[.nil, .nil, .nil, .nil]]), (13, 4, [machineC .own q.2])] 14) (fun q => q.1 ≤ n ∧ machineOk q.2 = true ∧ q.2.cores.length = n ∧ finWho p ((List.range n).drop q.1) q.2 = finWho p (List.range n) M0) (fun q => n - q.1) (0, M0) ⟨by simp, f1.1, hn0, rfl⟩ ?_ ?_
  ·refine Sub.trans (Sub.fold1 13 0 18 rfl (by simp [-gD] <;> omega) rfl (by decide) (by decide) rfl) ?_
   simp only [fS, fS2, qA, qC]
   refine Sub.trans (Sub.fold1 13 1 19 rfl (by simp [-gD] <;> omega) rfl (by decide) (by decide) rfl) ?_
   simp only [fS, fS2, qA, qC]
   refine Sub.trans (Sub.fold1 13 2 20 rfl (by simp [-gD] <;> omega) rfl (by decide) (by decide) rfl) ?_
   simp only [fS, fS2, qA, qC]
   refine Sub.trans (Sub.fold1 13 3 21 rfl (by simp [-gD] <;> omega) rfl (by decide) (by decide) rfl) ?_
   simp only [fS, fS2, qA, qC]
   refine Sub.shape [] id (by omega) ?_ ?_ ?_ ?_ <;> simp [qA3]
  ·rintro ⟨j, M1⟩ ⟨hj, hM1, hlen1, he1⟩
   simp only at hj hM1 hlen1 he1
   simp only [go_sem, qA, qB, qC, qD, qE, qF, qG, qH, hlen1]
   repeat refine K ?_
   refine qA1 (fun hc1 => ?_) (fun hc1 => ?_)
   ·simp only [decide_eq_true_eq] at hc1
    have hj' : j < n := by omega
    rw [drop_range hj'] at he1
    have a1 := maloneN_ok (aloneN 40) (j : Int) hM1
    have a2 := finStep_ok p j hM1
    have hA := l15Alone_ok M1 j 40 hM1 (by omega)
    have hB : CallOk Tryz.prog num 425 [.agg (progC .bw p), mchV (maloneN (aloneN 40) M1 j)] (mchF (maloneN (aloneN 40) M1 j)) (.agg (machineC .own (finStep p M1 j))) := l15FRest_ok p (maloneN (aloneN 40) M1 j) hp a1
    have hef1 : finWho p ((List.range n).drop (j + 1)) (finStep p M1 j) = finWho p (List.range n) M0 := he1
    generalize finStep p M1 j = M2 at *
    generalize maloneN (aloneN 40) M1 j = M3 at *
    simp only [go_sem, qA, qB, qC, qD, qE, qF, qG, qH, hlen1]
    repeat refine K ?_
    refine DA [(0, 15), (1, 14), (2, 16), (3, 17)] (hA) ?_
    try simp only [go_sem, qA, qB, qC, qD, qE, qF, qG, qH]
    repeat refine K ?_
    try simp only [go_sem, qA, qB, qC, qD, qE, qF, qG, qH]
    repeat refine K ?_
    refine DA [(0, 18), (1, 19), (2, 20), (3, 21)] (hB) ?_
    try simp only [go_sem, qA, qB, qC, qD, qE, qF, qG, qH]
    repeat refine K ?_
    try simp only [go_sem, qA, qB, qC, qD, qE, qF, qG, qH, qA4 (i := j) (by omega)]
    repeat refine K ?_
    refine qA5 (j + 1, M2) ?_ ⟨hj', a2.1, by rw [a2.2]; exact hlen1, hef1⟩ (by simp only; omega)
    refine Sub.trans (Sub.fold1 13 0 22 rfl (by simp [-gD] <;> omega) rfl (by decide) (by decide) rfl) ?_
    simp only [fS, fS2, qA, qC]
    refine Sub.trans (Sub.fold1 13 1 23 rfl (by simp [-gD] <;> omega) rfl (by decide) (by decide) rfl) ?_
    simp only [fS, fS2, qA, qC]
    refine Sub.trans (Sub.fold1 13 2 24 rfl (by simp [-gD] <;> omega) rfl (by decide) (by decide) rfl) ?_
    simp only [fS, fS2, qA, qC]
    refine Sub.trans (Sub.fold1 13 3 25 rfl (by simp [-gD] <;> omega) rfl (by decide) (by decide) rfl) ?_
    simp only [fS, fS2, qA, qC]
    refine Sub.shape [] id (by omega) ?_ ?_ ?_ ?_ <;> simp [qA3]
   ·simp only [decide_eq_false_iff_not] at hc1
    obtain rfl : j = n := by omega
    have he1' : M1 = finWho p (List.range j) M0 := by
     rw [← he1, List.drop_eq_nil_of_le (by simp)]
     rfl
    simp only [go_sem, qA, qB, qC, qD, qE, qF, qG, qH, qA4 (i := k) (by omega)]
    repeat refine K ?_
    refine qA5 (k + 1, M1) ?_ ⟨hkR, hM1, hlen1, by rw [he1']; exact hef⟩ (by simp only; omega)
    refine Sub.trans (Sub.fold1 13 1 14 rfl (by simp [-gD] <;> omega) rfl (by decide) (by decide) rfl) ?_
    simp only [fS, fS2, qA, qC]
    refine Sub.shape [] id (by omega) ?_ ?_ ?_ ?_ <;> simp [qA3]
    all_goals exact fun e => absurd hlen1 e
end Go.Sep
