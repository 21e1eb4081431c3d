/- Contracts of functions. -/
import Derived.Test.YtoijhndfkfliiaaConk
namespace Go.Sep
open Go.Proofs
set_option linter.unusedSimpArgs false
set_option linter.unusedVariables false
set_option maxRecDepth 100000
def m25 : MFn := ⟨43, [.cell 6 3 true, .t 7], .seq (xr [xo 3 (.box (.t 0)), xo 4 (.box (.t 1)), xo 6 (.alloc [.nil, .nil, .nil]), xo 7 (.mv (.c (.nil)))]) (.seq (xr [xo 13 (.load 3 true (.t 4)), xo 14 (.call 49 [false] [.t 13]), xo 8 (.alloc [.nil, .nil, .nil]), ⟨none, .store 3 (.t 8) (.t 14), none⟩]) (.seq (xr [xo 15 (.mkSl [xz] 0 []), xv 9 15]) (.seq (.seq (xr [xv 16 2, xo 17 (.len (.t 16)), xo 18 (.bin .gtr (.t 17) (xi 4000)), xv 19 18, xg 20 (.load 2 true (.t 3)) 19 false, xg 21 (.load 3 true (.t 4)) 19 false, xg 22 (.call 50 [false, false] [.t 20, .t 21]) 19 false, xg 23 (.un .«not» (.t 22)) 19 false, xo 24 (.pick (.t 19) (.c (.bool true)) (.t 23))]) (.cond 24 (.seq (xr [xo 25 (.load 3 true (.t 8)), xv 26 9, ⟨none, .store 3 (.t 6) (.t 25), none⟩, xv 7 26]) (.ret)) (.skip))) (.seq (.seq (xr [xv 27 2, xo 28 (.len (.t 27)), xo 29 (.mv (xi 0))]) (.blk 0 (.loop (.seq (xr [xo 30 (.bin .lss (.t 29) (.t 28))]) (.seq (.cond 30 (.skip) (.exit 0)) (.seq (.blk 1 (.seq (xr [xo 31 (.iad 1 (.t 27) (.t 29)), xo 32 (.load 1 false (.t 31)), xv 11 32]) (.seq (xr [xo 33 (.load 2 true (.t 3)), xv 34 11, xo 35 (.call 43 [false, true, false] [.t 33, .t 8, .t 34]), xv 12 35]) (xr [xv 36 9, xv 37 12, xo 38 (.mkSl [xz] 1 [(0, .t 37)]), xo 39 (.app 1 8 (.t 36) (.t 38)), xv 9 39])))) (xr [xo 40 (.bin .add (.t 29) (xi 1)), xv 29 40]))))))) (.seq (xr [xo 41 (.load 3 true (.t 8)), xv 42 9, ⟨none, .store 3 (.t 6) (.t 41), none⟩, xv 7 42]) (.ret))))))⟩
theorem c25 : chkC Try.prog num Try.f40.ntmps m25.body ((Try.f40.body).getD .skip) = true := by kernel_rfl
def m143 : MFn := ⟨22, [.cell 6 3 true, .t 7], .seq (xr [xo 3 (.box (.t 0)), xo 4 (.box (.t 1)), xo 6 (.alloc [.nil, .nil, .nil]), xo 7 (.mv (xi 0))]) (.seq (.seq (xr [xo 10 (.load 2 true (.t 3)), xo 11 (.load 3 true (.t 4)), xo 12 (.call 50 [false, false] [.t 10, .t 11]), xo 13 (.un .«not» (.t 12))]) (.cond 13 (.seq (xr [xo 14 (.build [.nil, .nil, .nil] []), ⟨none, .store 3 (.t 6) (.t 14), none⟩, xo 7 (.mv (xi 1))]) (.ret)) (.skip))) (.seq (xr [xo 15 (.load 3 true (.t 4)), xo 16 (.call 49 [false] [.t 15]), xo 8 (.alloc [.nil, .nil, .nil]), ⟨none, .store 3 (.t 8) (.t 16), none⟩]) (.seq (xr [xo 17 (.load 2 true (.t 3)), xv 18 2, xo 19 (.call 43 [false, true, false] [.t 17, .t 8, .t 18]), xv 9 19]) (.seq (xr [xo 20 (.load 3 true (.t 8)), xv 21 9, ⟨none, .store 3 (.t 6) (.t 20), none⟩, xv 7 21]) (.ret)))))⟩
theorem c143 : chkC Try.prog num Try.f57.ntmps m143.body ((Try.f57.body).getD .skip) = true := by kernel_rfl
def m145 : MFn := ⟨52, [.cell 6 3 true, .t 7], .seq (xr [xo 3 (.box (.t 0)), xo 4 (.box (.t 1)), xo 6 (.alloc [.nil, .nil, .nil]), xo 7 (.mv (.c (.nil)))]) (.seq (xr [xo 13 (.mkSl [xz] 0 []), xv 8 13]) (.seq (xr [xo 14 (.load 3 true (.t 4)), xo 15 (.call 65 [false] [.t 14]), xo 9 (.alloc [.nil, .nil, .nil]), ⟨none, .store 3 (.t 9) (.t 15), none⟩]) (.seq (.seq (xr [xo 16 (.load 2 true (.t 3)), xo 17 (.load 3 true (.t 4)), xo 18 (.call 63 [false, false] [.t 16, .t 17]), xo 19 (.un .«not» (.t 18)), xv 20 19, xg 21 (.mv (.t 2)) 20 false, xg 22 (.len (.t 21)) 20 false, xg 23 (.bin .gtr (.t 22) (xi 4000)) 20 false, xo 24 (.pick (.t 20) (.c (.bool true)) (.t 23))]) (.cond 24 (.seq (xr [xo 25 (.load 3 true (.t 9)), xv 26 8, ⟨none, .store 3 (.t 6) (.t 25), none⟩, xv 7 26]) (.ret)) (.skip))) (.seq (.seq (xr [xo 10 (.mv (xi 0))]) (.blk 0 (.loop (.seq (.seq (xr [xv 27 10, xv 28 2, xo 29 (.len (.t 28)), xo 30 (.bin .lss (.t 27) (.t 29))]) (.cond 30 (.skip) (.exit 0))) (.seq (.blk 1 (.seq (.dreg (.take 0 (xo 34 (.load 2 true (.t 3))) (.take 1 (xo 35 (.load 3 true (.t 9))) (.take 2 (xv 36 2) (.take 3 (xv 37 10) (.take 4 (xo 38 (.iad 1 (.t 36) (.t 37))) (.take 5 (xo 39 (.load 1 false (.t 38))) (.both 6 [0, 1, 5] (xo 40 (.call 46 [false, false, false] [.t 34, .t 35, .t 39])) (.take 7 (xv 33 40) (.take 8 (xo 41 (.ext (.t 33) 0)) (.take 9 (xo 42 (.ext (.t 33) 1)) (.only 10 [] (xo 11 (.alloc [.nil, .nil, .nil])) (.only 11 [0, 1, 2, 3, 4, 5, 7, 8] ⟨none, .store 3 (.t 11) (.t 41), none⟩ (.only 12 [0, 1, 2, 3, 4, 5, 7, 8, 9] (xv 12 42) (.done))))))) 10 [] (xo 11 (.alloc [.nil, .nil, .nil])) (.only 6 [0, 1, 5] (xo 40 (.call 46 [false, false, false] [.t 34, .t 35, .t 39])) (.only 7 [] (xv 33 40) (.take 8 (xo 41 (.ext (.t 33) 0)) (.take 9 (xo 42 (.ext (.t 33) 1)) (.only 11 [0, 1, 2, 3, 4, 5, 8] ⟨none, .store 3 (.t 11) (.t 41), none⟩ (.only 12 [0, 1, 2, 3, 4, 5, 8, 9] (xv 12 42) (.done))))))))))))))) (.seq (xr [xv 43 8, xv 44 12, xo 45 (.mkSl [xz] 1 [(0, .t 44)]), xo 46 (.app 1 8 (.t 43) (.t 45)), xv 8 46]) (.seq (xr [xv 47 12, xo 48 (.bin .eql (.t 47) (xi 0))]) (.cond 48 (xr [xo 49 (.load 3 true (.t 11)), ⟨none, .store 3 (.t 9) (.t 49), none⟩]) (.skip)))))) (xr [xv 31 10, xo 32 (.bin .add (.t 31) (xi 1)), xv 10 32])))))) (.seq (xr [xo 50 (.load 3 true (.t 9)), xv 51 8, ⟨none, .store 3 (.t 6) (.t 50), none⟩, xv 7 51]) (.ret))))))⟩
theorem c145 : chkC Try.prog num Try.f62.ntmps m145.body ((Try.f62.body).getD .skip) = true := by kernel_rfl
def m147 : MFn := ⟨10, [.t 4], .seq (xr [xo 4 (.mv (xi 0))]) (.seq (.seq (xr [xv 5 0, xv 6 1, xo 7 (.bin .lss (.t 5) (.t 6))]) (.cond 7 (.seq (xr [xv 8 0, xv 4 8]) (.ret)) (.skip))) (.seq (xr [xv 9 1, xv 4 9]) (.ret)))⟩
theorem c147 : chkC Try.prog num Try.f73.ntmps m147.body ((Try.f73.body).getD .skip) = true := by kernel_rfl
open Nat renaming reduceAdd → qA, reduceMul → qB, reduceEqDiff → qC, reduceBEq → qD
open Int renaming reduceToNat → qE, reduceEq → qF, reduceLT → qG, reduceLE → qH
open List renaming getD_eq_getElem?_getD → gD

theorem ints_snoc (l : List Int) (n : Int) : ints l ++ [[.int .i64 n]] = ints (l ++ [n]) := by simp [ints]

/-- A run by picks: the source, and the codes. -/
def runStep (p : Prog) (st : Source × List Int) (who : Int) : Source × List Int := ((sourceStep p st.1 who).1, st.2 ++ [(sourceStep p st.1 who).2])
def runF (p : Prog) (s : Source) (picks : List Int) : Source × List Int := picks.foldl (runStep p) (s, [])
def sourceRun (p : Prog) (s : Source) (picks : List Int) : Source × List Int := if sourceOk p s && decide ((picks.length : Int) ≤ 4000) then runF p s picks else (s, [])

theorem sourceStep_keeps {p : Prog} {s : Source} (who : Int) (h : sourceOk p s = true) : sourceOk p (sourceStep p s who).1 = true := by
  unfold sourceStep
  split
  · rename_i hc
    obtain ⟨w0, w1⟩ := code_in hc
    refine sourceOk_step h w1 fun h10 => ?_
    have hn := notesOk_len h
    unfold sourceCode at hc
    split at hc
    · simp at hc
    · split at hc
      · simp at hc
      · rename_i hx
        have : ¬ (s.tr.length : Int) = 4000 := fun e => hx (.inr ⟨h10, e⟩)
        omega
  · exact h

theorem runFold_ok {p : Prog} {s : Source} (h : sourceOk p s = true) (picks : List Int) : ∀ i, i ≤ picks.length → sourceOk p ((picks.take i).foldl (runStep p) (s, [])).1 = true ∧ ((picks.take i).foldl (runStep p) (s, [])).2.length = i
  | 0, _ => ⟨h, rfl⟩
  | i + 1, hi => by
    have ih := runFold_ok h picks i (by omega)
    rw [take_snoc picks 0 i (by omega), List.foldl_append]
    exact ⟨sourceStep_keeps _ ih.1, by simp only [List.foldl_cons, List.foldl_nil, runStep, List.length_append, ih.2]; rfl⟩
theorem run_fold (p : Prog) (picks : List Int) (i : Nat) (h : i < picks.length) (st : Source × List Int) : (picks.take (i + 1)).foldl (runStep p) st = runStep p ((picks.take i).foldl (runStep p) st) (picks.getD i 0) := by
  rw [take_snoc picks 0 i h, List.foldl_append]
  rfl

set_option maxHeartbeats 4000000 in
theorem implSourceRun_ok (p : Prog) (s : Source) (picks : List Int) (hp : SmallP p) (hs : Small s) (h4 : picks.length < 2 ^ 40) :
    CallOk Try.prog num 25 [.agg (progC .bw p), .agg (sourceC .bw s), .sl .bw 1 (ints picks)] [] (.tup [.agg (sourceC .own (sourceRun p s picks).1), .sl .own 1 (ints (sourceRun p s picks).2)]) := by
  refine enter (m := m25) (f := 25) (fn := Try.f40) Try.func40 (by kernel_rfl) rfl c25 rfl (by simp [Try.f40]) (by simp [bnds, bnd, nf_sl, nf_int, nf_bool, nf_str, ints_bnd]) (fun _ _ h => by simp [preH, look] at h) ?_
  unfold m25
  simp only [go_sem, qA, qB, qC, qD, qE, qF, qG, qH]
  repeat refine K ?_
  refine CA [] (copySource_ok s hs) ?_
  try simp only [go_sem, qA, qB, qC, qD, qE, qF, qG, qH]
  repeat refine K ?_
  by_cases hl : (4000 : Int) < picks.length
  · have hl' : ¬ (picks.length : Int) ≤ 4000 := by omega
    try simp only [go_sem, qA, qB, qC, qD, qE, qF, qG, qH, hl]
    repeat refine K ?_
    apply fin_tup (by simp)
    · exact Sub.refl _
    · simp [-List.drop_one, -gD, sourceRun, hl', ints_nil] <;> (first | rfl | exact ⟨rfl, rfl⟩ | exact ⟨rfl, rfl, rfl⟩ | skip)
  have hl' : (picks.length : Int) ≤ 4000 := by omega
  try simp only [go_sem, qA, qB, qC, qD, qE, qF, qG, qH, hl]
  repeat refine K ?_
  refine CA [] (implSourceOk_ok p s hp hs) ?_
  try simp only [go_sem, qA, qB, qC, qD, qE, qF, qG, qH]
  repeat refine K ?_
  cases hok : sourceOk p s
  · try simp only [go_sem, qA, qB, qC, qD, qE, qF, qG, qH, hok]
    repeat refine K ?_
    apply fin_tup (by simp)
    · exact Sub.refl _
    · simp [-List.drop_one, -gD, sourceRun, hok, ints_nil] <;> (first | rfl | exact ⟨rfl, rfl⟩ | exact ⟨rfl, rfl, rfl⟩ | skip)
  try simp only [go_sem, qA, qB, qC, qD, qE, qF, qG, qH, hok]
  repeat refine K ?_
  refine loop_intro (ι := Nat) (fun i => .mk [(3, .ptr 10 0 0), (6, .ptr 12 0 0), (8, .ptr 16 0 0), (9, .ns 17 0 i), (27, .sl .bw 1 (ints picks)), (28, .int .i64 picks.length), (29, .int .i64 i)] [(10, 2, [progC .bw p]), (12, 3, [[.nil, .nil, .nil]]), (16, 3, [sourceC .own ((picks.take i).foldl (runStep p) (s, [])).1]), (17, 1, ints ((picks.take i).foldl (runStep p) (s, [])).2)] 18) (fun i => i ≤ picks.length) (fun i => picks.length - i) 0 (by simp) ?_ ?_
  · refine Sub.trans (Sub.fold1 16 0 13 rfl (by simp [-gD] <;> omega) rfl (by decide) (by decide) rfl) ?_
    simp only [fS, qA, qC]
    refine Sub.trans (Sub.fold1 16 1 14 rfl (by simp [-gD] <;> omega) rfl (by decide) (by decide) rfl) ?_
    simp only [fS, qA, qC]
    refine Sub.trans (Sub.fold1 16 2 15 rfl (by simp [-gD] <;> omega) rfl (by decide) (by decide) rfl) ?_
    simp only [fS, qA, qC]
    refine Sub.shape [] id (by omega) ?_ ?_ ?_ ?_ <;> simp [ints_rep]
    exact .inl rfl
  · intro i hi
    have hr := runFold_ok hok picks i hi
    have hstep := fun h => run_fold p picks i h (s, [])
    have hfin : ¬ (i : Int) < picks.length → (picks.take i).foldl (runStep p) (s, []) = runF p s picks := fun h => by rw [List.take_of_length_le (by omega)]; rfl
    generalize (picks.take i).foldl (runStep p) (s, []) = st at hr hstep hfin
    obtain ⟨hso, hlen⟩ := hr
    have hss := small_of hso
    have htr := notesOk_len hso
    simp only [go_sem, qA, qB, qC, qD, qE, qF, qG, qH]
    refine branch_intro (fun hc => ?_) (fun hc => ?_)
    · simp only [decide_eq_true_eq] at hc
      have hl2 : i < picks.length := by omega
      simp only [go_sem, qA, qB, qC, qD, qE, qF, qG, qH, ints_getD picks i hl2]
      repeat refine K ?_
      refine CA [(0, 16)] (sourceStep_ok p st.1 (picks.getD i 0) hp hss hso htr) ?_
      try simp only [go_sem, qA, qB, qC, qD, qE, qF, qG, qH]
      repeat refine K ?_
      try simp only [go_sem, qA, qB, qC, qD, qE, qF, qG, qH, wrap_succ (i := i) (by omega), hlen]
      repeat refine K ?_
      refine back_intro (i + 1) ?_ hl2 (by omega)
      simp only [hstep hl2, runStep]
      refine Sub.shape [] (fun n => if n = 17 then 19 else n) (by omega) ?_ ?_ ?_ ?_ <;> simp [ints_rep]
      all_goals exact .inl (ints_snoc _ _)
    · simp only [decide_eq_false_iff_not] at hc
      have hf := hfin hc
      simp only [go_sem, qA, qB, qC, qD, qE, qF, qG, qH]
      repeat refine K ?_
      apply fin_tup (by simp)
      · exact Sub.refl _
      · simp [-List.drop_one, -gD, sourceRun, hok, hl', hlen, ← hf] <;> (first | rfl | exact ⟨rfl, rfl⟩ | exact ⟨rfl, rfl, rfl⟩ | skip)

def fairOne (p : Prog) (st : Source × Int) (i : Nat) : Source × Int := ((sourceStep p st.1 i).1, if (sourceStep p st.1 i).2 = 0 then st.2 + 1 else st.2)
def fairPart (p : Prog) (j : Nat) (st : Source × Int) : Source × Int := (List.range j).foldl (fairOne p) st
theorem fairPart_succ (p : Prog) (j : Nat) (st : Source × Int) : fairPart p (j + 1) st = fairOne p (fairPart p j st) j := by
  unfold fairPart
  rw [List.range_succ, List.foldl_append]
  rfl
def fairF (p : Prog) (s : Source) : Nat → Source × Int
  | 0 => (s, 0)
  | k + 1 => fairPart p p.bods.length (fairF p s k)
def fair (p : Prog) (s : Source) (rounds : Int) : Source × Int := if sourceOk p s then fairF p s (if rounds < 200 then rounds else 200).toNat else (⟨[], [], []⟩, 0)
theorem ok_ths {p : Prog} {s : Source} (h : sourceOk p s = true) : s.ths.length = p.bods.length ∧ p.bods.length ≤ 4 := by
  obtain ⟨hp, h1, _⟩ := (sourceOk_iff p s).1 h
  simp only [progOk, Bool.and_eq_true, decide_eq_true_eq, within_iff] at hp
  omega
theorem fairPart_ok {p : Prog} {st : Source × Int} {n : Int} (h : sourceOk p st.1 = true) (h0 : 0 ≤ st.2) (h1 : st.2 ≤ n) : ∀ j, sourceOk p (fairPart p j st).1 = true ∧ 0 ≤ (fairPart p j st).2 ∧ (fairPart p j st).2 ≤ n + j
  | 0 => ⟨h, h0, by simpa [fairPart] using h1⟩
  | j + 1 => by
    rw [fairPart_succ]
    have ih := fairPart_ok h h0 h1 j
    refine ⟨sourceStep_keeps _ ih.1, ?_⟩
    unfold fairOne
    simp only
    split <;> (push_cast; omega)
theorem fairF_ok {p : Prog} {s : Source} (h : sourceOk p s = true) : ∀ k, sourceOk p (fairF p s k).1 = true ∧ 0 ≤ (fairF p s k).2 ∧ (fairF p s k).2 ≤ 4 * k
  | 0 => ⟨h, by simp [fairF], by simp [fairF]⟩
  | k + 1 => by
    have ih := fairF_ok h k
    have h4 := (ok_ths h).2
    have := fairPart_ok (p := p) (st := fairF p s k) (n := 4 * k) ih.1 ih.2.1 ih.2.2 p.bods.length
    simp only [fairF]
    refine ⟨this.1, this.2.1, ?_⟩
    have := this.2.2
    push_cast at this ⊢
    omega

theorem l1Min_ok (a b : Int) : CallOk Try.prog num 147 [.int .i64 a, .int .i64 b] [] (.int .i64 (if a < b then a else b)) := by
  refine enter (m := m147) (f := 147) (fn := Try.f73) Try.func73 (by kernel_rfl) rfl c147 rfl (by simp [Try.f73]) (by simp [bnds, bnd, nf_sl, nf_int, nf_bool, nf_str, ints_bnd]) (fun _ _ h => by simp [preH, look] at h) ?_
  unfold m147
  by_cases h : a < b
  · simp only [go_sem, qA, qB, qC, qD, qE, qF, qG, qH, h]
    repeat refine K ?_
    refine ⟨_, Sub.refl _, ?_⟩; simp [FinS, nilL, nilV, oneOr, -List.drop_one]
  · simp only [go_sem, qA, qB, qC, qD, qE, qF, qG, qH, h]
    repeat refine K ?_
    refine ⟨_, Sub.refl _, ?_⟩; simp [FinS, nilL, nilV, oneOr, -List.drop_one]

set_option maxHeartbeats 4000000 in
theorem implSourceStep_ok (p : Prog) (s : Source) (who : Int) (hp : SmallP p) (hs : Small s) : CallOk Try.prog num 143 [.agg (progC .bw p), .agg (sourceC .bw s), .int .i64 who] [] (.tup [.agg (sourceC .own (specSourceStep p s who).1), .int .i64 (specSourceStep p s who).2]) := by
  refine enter (m := m143) (f := 143) (fn := Try.f57) Try.func57 (by kernel_rfl) rfl c143 rfl (by simp [Try.f57]) (by simp [bnds, bnd, nf_sl, nf_int, nf_bool, nf_str, ints_bnd]) (fun _ _ h => by simp [preH, look] at h) ?_
  unfold m143
  simp only [go_sem, qA, qB, qC, qD, qE, qF, qG, qH]
  repeat refine K ?_
  refine CA [] (implSourceOk_ok p s hp hs) ?_
  try simp only [go_sem, qA, qB, qC, qD, qE, qF, qG, qH]
  repeat refine K ?_
  cases hok : sourceOk p s
  · try simp only [go_sem, qA, qB, qC, qD, qE, qF, qG, qH, hok]
    repeat refine K ?_
    apply fin_tup (by simp)
    · exact Sub.refl _
    · simp [-List.drop_one, -gD, specSourceStep, hok, threads_nil, chans_nil, notes_nil] <;> (first | rfl | exact ⟨rfl, rfl⟩ | exact ⟨rfl, rfl, rfl⟩ | skip)
  try simp only [go_sem, qA, qB, qC, qD, qE, qF, qG, qH, hok]
  repeat refine K ?_
  refine CA [] (copySource_ok s hs) ?_
  try simp only [go_sem, qA, qB, qC, qD, qE, qF, qG, qH]
  repeat refine K ?_
  have htr := notesOk_len hok
  apply calls_mk
  · refine Sub.trans (Sub.fold1 16 0 13 rfl (by simp [-gD] <;> omega) rfl (by decide) (by decide) rfl) ?_
    simp only [fS, qA, qC]
    refine Sub.trans (Sub.fold1 16 1 14 rfl (by simp [-gD] <;> omega) rfl (by decide) (by decide) rfl) ?_
    simp only [fS, qA, qC]
    refine Sub.trans (Sub.fold1 16 2 15 rfl (by simp [-gD] <;> omega) rfl (by decide) (by decide) rfl) ?_
    simp only [fS, qA, qC]
    exact Sub.refl _
  refine CA [(0, 16)] (sourceStep_ok p s who hp hs hok htr) ?_
  try simp only [go_sem, qA, qB, qC, qD, qE, qF, qG, qH]
  repeat refine K ?_
  try simp only [go_sem, qA, qB, qC, qD, qE, qF, qG, qH]
  repeat refine K ?_
  apply fin_tup (by simp)
  · exact Sub.refl _
  · simp [-List.drop_one, -gD, specSourceStep, hok] <;> (first | rfl | exact ⟨rfl, rfl⟩ | exact ⟨rfl, rfl, rfl⟩ | skip)

theorem sourceStep_code {p : Prog} {s : Source} {who : Int} (h : ¬ (sourceStep p s who).2 = 0) : (sourceStep p s who).1 = s := by
  unfold sourceStep at h ⊢
  split
  · rename_i hc
    rw [if_pos hc] at h
    exact absurd rfl h
  · rfl

set_option maxHeartbeats 8000000 in
theorem specSourceRun_ok (p : Prog) (s : Source) (picks : List Int) (hp : SmallP p) (hs : Small s) (h4 : picks.length < 2 ^ 40) :
    CallOk Try.prog num 145 [.agg (progC .bw p), .agg (sourceC .bw s), .sl .bw 1 (ints picks)] [] (.tup [.agg (sourceC .own (sourceRun p s picks).1), .sl .own 1 (ints (sourceRun p s picks).2)]) := by
  refine enter (m := m145) (f := 145) (fn := Try.f62) Try.func62 (by kernel_rfl) rfl c145 rfl (by simp [Try.f62]) (by simp [bnds, bnd, nf_sl, nf_int, nf_bool, nf_str, ints_bnd]) (fun _ _ h => by simp [preH, look] at h) ?_
  unfold m145
  simp only [go_sem, qA, qB, qC, qD, qE, qF, qG, qH]
  repeat refine K ?_
  refine CA [] (l4Copy_ok s hs) ?_
  try simp only [go_sem, qA, qB, qC, qD, qE, qF, qG, qH]
  repeat refine K ?_
  try simp only [go_sem, qA, qB, qC, qD, qE, qF, qG, qH]
  repeat refine K ?_
  refine CA [] (specSourceOk_ok p s hp hs) ?_
  try simp only [go_sem, qA, qB, qC, qD, qE, qF, qG, qH]
  repeat refine K ?_
  cases hok : sourceOk p s
  · try simp only [go_sem, qA, qB, qC, qD, qE, qF, qG, qH, hok]
    repeat refine K ?_
    apply fin_tup (by simp)
    · exact Sub.refl _
    · simp [-List.drop_one, -gD, sourceRun, hok, ints_nil] <;> (first | rfl | exact ⟨rfl, rfl⟩ | exact ⟨rfl, rfl, rfl⟩ | skip)
  by_cases hl : (4000 : Int) < picks.length
  · have hl' : ¬ (picks.length : Int) ≤ 4000 := by omega
    try simp only [go_sem, qA, qB, qC, qD, qE, qF, qG, qH, hok, hl]
    repeat refine K ?_
    apply fin_tup (by simp)
    · exact Sub.refl _
    · simp [-List.drop_one, -gD, sourceRun, hl', ints_nil] <;> (first | rfl | exact ⟨rfl, rfl⟩ | exact ⟨rfl, rfl, rfl⟩ | skip)
  have hl' : (picks.length : Int) ≤ 4000 := by omega
  try simp only [go_sem, qA, qB, qC, qD, qE, qF, qG, qH, hok, hl]
  repeat refine K ?_
  refine loop_intro (ι := Nat) (fun i => .mk [(2, .sl .bw 1 (ints picks)), (3, .ptr 10 0 0), (6, .ptr 12 0 0), (8, .ns 13 0 i), (9, .ptr 17 0 0), (10, .int .i64 i)] [(10, 2, [progC .bw p]), (12, 3, [[.nil, .nil, .nil]]), (13, 1, ints ((picks.take i).foldl (runStep p) (s, [])).2), (17, 3, [sourceC .own ((picks.take i).foldl (runStep p) (s, [])).1])] 18) (fun i => i ≤ picks.length) (fun i => picks.length - i) 0 (by simp) ?_ ?_
  · refine Sub.trans (Sub.fold1 17 0 14 rfl (by simp [-gD] <;> omega) rfl (by decide) (by decide) rfl) ?_
    simp only [fS, qA, qC]
    refine Sub.trans (Sub.fold1 17 1 15 rfl (by simp [-gD] <;> omega) rfl (by decide) (by decide) rfl) ?_
    simp only [fS, qA, qC]
    refine Sub.trans (Sub.fold1 17 2 16 rfl (by simp [-gD] <;> omega) rfl (by decide) (by decide) rfl) ?_
    simp only [fS, qA, qC]
    refine Sub.shape [] id (by omega) ?_ ?_ ?_ ?_ <;> simp [ints_rep]
    exact .inl rfl
  · intro i hi
    have hr := runFold_ok hok picks i hi
    have hstep := fun h => run_fold p picks i h (s, [])
    have hfin : ¬ (i : Int) < picks.length → (picks.take i).foldl (runStep p) (s, []) = runF p s picks := fun h => by rw [List.take_of_length_le (by omega)]; rfl
    generalize (picks.take i).foldl (runStep p) (s, []) = st at hr hstep hfin
    obtain ⟨hso, hlen⟩ := hr
    have hss := small_of hso
    simp only [go_sem, qA, qB, qC, qD, qE, qF, qG, qH]
    refine branch_intro (fun hc => ?_) (fun hc => ?_)
    · simp only [decide_eq_true_eq] at hc
      have hl2 : i < picks.length := by omega
      have e : specSourceStep p st.1 (picks.getD i 0) = sourceStep p st.1 (picks.getD i 0) := by unfold specSourceStep; rw [if_pos hso]
      simp only [go_sem, qA, qB, qC, qD, qE, qF, qG, qH, ints_getD picks i hl2]
      repeat refine K ?_
      refine ⟨?_, ?_⟩
      · repeat refine K ?_
        refine DA [] (specSourceStep_ok p st.1 (picks.getD i 0) hp hss) ?_
        try simp only [go_sem, qA, qB, qC, qD, qE, qF, qG, qH]
        repeat refine K ?_
        try simp only [go_sem, qA, qB, qC, qD, qE, qF, qG, qH, e, wrap_succ (i := i) (by omega), hlen]
        repeat refine K ?_
        by_cases hcode : (sourceStep p st.1 (picks.getD i 0)).2 = 0
        · try simp only [go_sem, qA, qB, qC, qD, qE, qF, qG, qH, hcode, wrap_succ (i := i) (by omega), hlen]
          repeat refine K ?_
          refine back_intro (i + 1) ?_ hl2 (by omega)
          simp only [hstep hl2, runStep, hcode]
          refine Sub.trans (Sub.fold1 17 0 21 rfl (by simp [-gD] <;> omega) rfl (by decide) (by decide) rfl) ?_
          simp only [fS, qA, qC]
          refine Sub.trans (Sub.fold1 17 1 22 rfl (by simp [-gD] <;> omega) rfl (by decide) (by decide) rfl) ?_
          simp only [fS, qA, qC]
          refine Sub.trans (Sub.fold1 17 2 23 rfl (by simp [-gD] <;> omega) rfl (by decide) (by decide) rfl) ?_
          simp only [fS, qA, qC]
          refine Sub.shape [] (fun n => if n = 13 then 26 else n) (by omega) ?_ ?_ ?_ ?_ <;> simp [ints_rep]
          all_goals exact .inl (ints_snoc _ _)
        · try simp only [go_sem, qA, qB, qC, qD, qE, qF, qG, qH, hcode, wrap_succ (i := i) (by omega), hlen]
          repeat refine K ?_
          refine back_intro (i + 1) ?_ hl2 (by omega)
          simp only [hstep hl2, runStep, sourceStep_code hcode]
          refine Sub.trans (Sub.fold1 17 0 18 rfl (by simp [-gD] <;> omega) rfl (by decide) (by decide) rfl) ?_
          simp only [fS, qA, qC]
          refine Sub.trans (Sub.fold1 17 1 19 rfl (by simp [-gD] <;> omega) rfl (by decide) (by decide) rfl) ?_
          simp only [fS, qA, qC]
          refine Sub.trans (Sub.fold1 17 2 20 rfl (by simp [-gD] <;> omega) rfl (by decide) (by decide) rfl) ?_
          simp only [fS, qA, qC]
          refine Sub.shape [] (fun n => if n = 13 then 26 else n) (by omega) ?_ ?_ ?_ ?_ <;> simp [ints_rep]
          all_goals exact .inl (ints_snoc _ _)
      · repeat refine K ?_
        refine DA [] (specSourceStep_ok p st.1 (picks.getD i 0) hp hss) ?_
        try simp only [go_sem, qA, qB, qC, qD, qE, qF, qG, qH]
        repeat refine K ?_
        try simp only [go_sem, qA, qB, qC, qD, qE, qF, qG, qH, e, wrap_succ (i := i) (by omega), hlen]
        repeat refine K ?_
        by_cases hcode : (sourceStep p st.1 (picks.getD i 0)).2 = 0
        · try simp only [go_sem, qA, qB, qC, qD, qE, qF, qG, qH, hcode, wrap_succ (i := i) (by omega), hlen]
          repeat refine K ?_
          refine back_intro (i + 1) ?_ hl2 (by omega)
          simp only [hstep hl2, runStep, hcode]
          refine Sub.trans (Sub.fold1 17 0 22 rfl (by simp [-gD] <;> omega) rfl (by decide) (by decide) rfl) ?_
          simp only [fS, qA, qC]
          refine Sub.trans (Sub.fold1 17 1 23 rfl (by simp [-gD] <;> omega) rfl (by decide) (by decide) rfl) ?_
          simp only [fS, qA, qC]
          refine Sub.trans (Sub.fold1 17 2 24 rfl (by simp [-gD] <;> omega) rfl (by decide) (by decide) rfl) ?_
          simp only [fS, qA, qC]
          refine Sub.shape [] (fun n => if n = 13 then 26 else n) (by omega) ?_ ?_ ?_ ?_ <;> simp [ints_rep]
          all_goals exact .inl (ints_snoc _ _)
        · try simp only [go_sem, qA, qB, qC, qD, qE, qF, qG, qH, hcode, wrap_succ (i := i) (by omega), hlen]
          repeat refine K ?_
          refine back_intro (i + 1) ?_ hl2 (by omega)
          simp only [hstep hl2, runStep, sourceStep_code hcode]
          refine Sub.trans (Sub.fold1 17 0 18 rfl (by simp [-gD] <;> omega) rfl (by decide) (by decide) rfl) ?_
          simp only [fS, qA, qC]
          refine Sub.trans (Sub.fold1 17 1 19 rfl (by simp [-gD] <;> omega) rfl (by decide) (by decide) rfl) ?_
          simp only [fS, qA, qC]
          refine Sub.trans (Sub.fold1 17 2 20 rfl (by simp [-gD] <;> omega) rfl (by decide) (by decide) rfl) ?_
          simp only [fS, qA, qC]
          refine Sub.shape [] (fun n => if n = 13 then 26 else n) (by omega) ?_ ?_ ?_ ?_ <;> simp [ints_rep]
          all_goals exact .inl (ints_snoc _ _)
    · simp only [decide_eq_false_iff_not] at hc
      have hf := hfin hc
      simp only [go_sem, qA, qB, qC, qD, qE, qF, qG, qH]
      repeat refine K ?_
      apply fin_tup (by simp)
      · exact Sub.refl _
      · simp [-List.drop_one, -gD, sourceRun, hok, hl', hlen, ← hf] <;> (first | rfl | exact ⟨rfl, rfl⟩ | exact ⟨rfl, rfl, rfl⟩ | skip)


end Go.Sep
