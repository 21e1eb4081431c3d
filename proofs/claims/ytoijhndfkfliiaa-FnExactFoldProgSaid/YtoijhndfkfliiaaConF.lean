/- Contracts of functions. -/
import Derived.Test.YtoijhndfkfliiaaConE
namespace Go.Sep
open Go.Proofs
set_option linter.unusedSimpArgs false
set_option linter.unusedVariables false
set_option maxRecDepth 100000
def m238 : MFn := ⟨30, [.cell 2 2 true], .seq (xr [xo 1 (.box (.t 0)), xo 2 (.alloc [.nil, .nil])]) (.seq (xr [xo 5 (.mkSl [xz] 0 []), xo 6 (.fad 0 (.t 1)), xo 7 (.load 1 false (.t 6)), xo 8 (.app 1 8 (.t 5) (.t 7)), xo 9 (.build [.nil, .nil] [(0, 1, .t 8)]), xo 3 (.alloc [.nil, .nil]), ⟨none, .store 2 (.t 3) (.t 9), none⟩]) (.seq (.seq (xr [xo 4 (.mv (xi 0))]) (.blk 0 (.loop (.seq (.seq (xr [xv 10 4, xo 11 (.fad 1 (.t 1)), xo 12 (.load 1 false (.t 11)), xo 13 (.len (.t 12)), xo 14 (.bin .lss (.t 10) (.t 13))]) (.cond 14 (.skip) (.exit 0))) (.seq (.blk 1 (.dreg (.take 0 (xo 17 (.fad 1 (.t 3))) (.take 1 (xo 18 (.load 1 false (.t 17))) (.take 3 (xo 20 (.fad 1 (.t 1))) (.take 4 (xo 21 (.load 1 false (.t 20))) (.take 5 (xv 22 4) (.take 6 (xo 23 (.iad 1 (.t 21) (.t 22))) (.take 7 (xo 24 (.load 1 false (.t 23))) (.only 2 [] (xo 19 (.mkSl [xz, xz, xz, xz, xz] 0 [])) (.only 8 [7] (xo 25 (.app 5 40 (.t 19) (.t 24))) (.only 9 [] (xo 26 (.mkSl [.nil] 1 [(0, .t 25)])) (.only 10 [1] (xo 27 (.app 1 24 (.t 18) (.t 26))) (.only 11 [0, 1, 3, 4, 5, 6, 7] (xo 28 (.fad 1 (.t 3))) (.only 12 [0, 1, 3, 4, 5, 6, 7] ⟨none, .store 1 (.t 28) (.t 27), none⟩ (.done)))))))))))))))) (xr [xv 15 4, xo 16 (.bin .add (.t 15) (xi 1)), xv 4 16])))))) (.seq (xr [xo 29 (.load 2 true (.t 3)), ⟨none, .store 2 (.t 2) (.t 29), none⟩]) (.ret))))⟩
theorem c238 : chkC Try.prog num Try.f151.ntmps m238.body ((Try.f151.body).getD .skip) = true := by kernel_rfl
def m247 : MFn := ⟨26, [.cell 2 2 true], .seq (xr [xo 1 (.box (.t 0)), xo 2 (.alloc [.nil, .nil])]) (.seq (xr [xo 6 (.fad 0 (.t 1)), xo 7 (.load 1 false (.t 6)), xo 8 (.call 36 [false] [.t 7]), xo 9 (.build [.nil, .nil] [(0, 1, .t 8)]), xo 3 (.alloc [.nil, .nil]), ⟨none, .store 2 (.t 3) (.t 9), none⟩]) (.seq (.seq (xr [xo 10 (.fad 1 (.t 1)), xo 11 (.load 1 false (.t 10)), xo 12 (.len (.t 11)), xo 13 (.mv (xi 0))]) (.blk 0 (.loop (.seq (xr [xo 14 (.bin .lss (.t 13) (.t 12))]) (.seq (.cond 14 (.skip) (.exit 0)) (.seq (.blk 1 (.seq (xr [xo 15 (.iad 1 (.t 11) (.t 13)), xo 16 (.load 1 false (.t 15)), xv 5 16]) (.dreg (.take 0 (xo 17 (.fad 1 (.t 3))) (.take 1 (xo 18 (.load 1 false (.t 17))) (.only 2 [] (xv 19 5) (.only 3 [] (xo 20 (.call 248 [false] [.t 19])) (.only 4 [] (xo 21 (.mkSl [.nil] 1 [(0, .t 20)])) (.only 5 [1] (xo 22 (.app 1 24 (.t 18) (.t 21))) (.only 6 [0, 1] (xo 23 (.fad 1 (.t 3))) (.only 7 [0, 1] ⟨none, .store 1 (.t 23) (.t 22), none⟩ (.done)))))))))))) (xr [xo 24 (.bin .add (.t 13) (xi 1)), xv 13 24]))))))) (.seq (xr [xo 25 (.load 2 true (.t 3)), ⟨none, .store 2 (.t 2) (.t 25), none⟩]) (.ret))))⟩
theorem c247 : chkC Try.prog num Try.f173.ntmps m247.body ((Try.f173.body).getD .skip) = true := by kernel_rfl
def m248 : MFn := ⟨6, [.t 2], .seq (xr [xo 2 (.mv (.c (.nil)))]) (.seq (xr [xo 3 (.mkSl [xz, xz, xz, xz, xz] 0 []), xv 4 0, xo 5 (.app 5 40 (.t 3) (.t 4)), xv 2 5]) (.ret))⟩
theorem c248 : chkC Try.prog num Try.f174.ntmps m248.body ((Try.f174.body).getD .skip) = true := by kernel_rfl
def m289 : MFn := ⟨115, [.t 2], .seq (xr [xo 2 (.mv (.c (.nil)))]) (.seq (xr [xo 15 (.mkSl [.nil] 0 []), xv 3 15]) (.seq (.seq (xr [xv 16 0, xo 17 (.call 82 [false, false] [.t 16, xi 3]), xo 18 (.un .«not» (.t 17))]) (.cond 18 (.seq (xr [xv 19 3, xv 2 19]) (.ret)) (.skip))) (.seq (xr [xv 20 0, xo 21 (.len (.t 20)), xo 22 (.mkS [.bool false] 1 (.t 21) (.t 21)), xv 4 22]) (.seq (.seq (xr [xo 5 (.mv (xi 0))]) (.blk 0 (.loop (.seq (.seq (xr [xv 23 5, xv 24 0, xo 25 (.len (.t 24)), xo 26 (.bin .lss (.t 23) (.t 25))]) (.cond 26 (.skip) (.exit 0))) (.seq (.blk 1 (xr [xv 29 3, xo 30 (.mkS [.bool false, .int .i64 0] 16 (xi 4) (xi 4)), xo 31 (.mkSl [.nil] 1 [(0, .t 30)]), xo 32 (.app 1 24 (.t 29) (.t 31)), xv 3 32])) (xr [xv 27 5, xo 28 (.bin .add (.t 27) (xi 1)), xv 5 28])))))) (.seq (.seq (xr [xo 6 (.mv (xi 0))]) (.blk 2 (.loop (.seq (.seq (xr [xv 33 6, xo 34 (.bin .lss (.t 33) (xi 4))]) (.cond 34 (.skip) (.exit 2))) (.seq (.blk 3 (xr [xv 37 3, xo 38 (.iad 1 (.t 37) (xi 0)), xo 39 (.load 1 false (.t 38)), xv 40 6, xo 41 (.build [.bool false, .int .i64 0] [(0, 1, .c (.bool true))]), xo 42 (.iad 2 (.t 39) (.t 40)), ⟨none, .store 2 (.t 42) (.t 41), none⟩])) (xr [xv 35 6, xo 36 (.bin .add (.t 35) (xi 1)), xv 6 36])))))) (.seq (xr [xv 43 4, xo 44 (.iad 1 (.t 43) (xi 0)), ⟨none, .store 1 (.t 44) (.c (.bool true)), none⟩]) (.seq (xr [xo 45 (.mkSl [xz] 1 [(0, xi 0)]), xv 7 45]) (.seq (.blk 4 (.loop (.seq (.seq (xr [xv 46 7, xo 47 (.len (.t 46)), xo 48 (.bin .gtr (.t 47) (xi 0))]) (.cond 48 (.skip) (.exit 4))) (.blk 5 (.seq (xr [xv 49 7, xo 50 (.iad 1 (.t 49) (xi 0)), xo 51 (.load 1 false (.t 50)), xv 8 51]) (.seq (xr [xo 52 (.mkSl [xz] 0 []), xv 53 7, xo 54 (.cut 1 (.t 53) (some (xi 1)) none), xo 55 (.app 1 8 (.t 52) (.t 54)), xv 7 55]) (.seq (.dreg (.take 0 (xv 56 0) (.take 1 (xv 57 8) (.take 2 (xo 58 (.iad 5 (.t 56) (.t 57))) (.take 3 (xo 59 (.load 5 true (.t 58))) (.take 4 (xv 60 3) (.only 5 [] (xv 61 8) (.only 6 [4] (xo 62 (.iad 1 (.t 60) (.t 61))) (.only 7 [] (xo 63 (.load 1 false (.t 62))) (.only 8 [3] (xo 64 (.call 325 [false, false] [.t 59, .t 63])) (.only 9 [0, 1, 2, 3, 4] (xv 9 64) (.done)))))))))))) (.seq (xr [xv 65 0, xv 66 8, xo 67 (.call 326 [false, false] [.t 65, .t 66]), xv 10 67]) (.seq (xr [xo 11 (.mv (xi 0))]) (.blk 6 (.loop (.seq (.seq (xr [xv 68 11, xv 69 10, xo 70 (.len (.t 69)), xo 71 (.bin .lss (.t 68) (.t 70))]) (.cond 71 (.skip) (.exit 6))) (.seq (.blk 7 (.seq (xr [xv 74 10, xv 75 11, xo 76 (.iad 1 (.t 74) (.t 75)), xo 77 (.load 1 false (.t 76)), xv 12 77]) (.seq (.seq (xr [xv 78 4, xv 79 12, xo 80 (.iad 1 (.t 78) (.t 79)), xo 81 (.load 1 false (.t 80)), xo 82 (.un .«not» (.t 81))]) (.cond 82 (.seq (xr [xv 83 4, xv 84 12, xo 85 (.iad 1 (.t 83) (.t 84)), ⟨none, .store 1 (.t 85) (.c (.bool true)), none⟩]) (.seq (xr [xv 86 3, xv 87 12, xo 88 (.mkSl [.bool false, .int .i64 0] 0 []), xv 89 9, xo 90 (.app 2 16 (.t 88) (.t 89)), xo 91 (.iad 1 (.t 86) (.t 87)), ⟨none, .store 1 (.t 91) (.t 90), none⟩]) (.seq (xr [xv 92 7, xv 93 12, xo 94 (.mkSl [xz] 1 [(0, .t 93)]), xo 95 (.app 1 8 (.t 92) (.t 94)), xv 7 95]) (.exit 7)))) (.skip))) (.seq (xr [xv 97 3, xv 98 12, xo 99 (.iad 1 (.t 97) (.t 98)), xo 100 (.load 1 false (.t 99)), xv 101 9, xo 102 (.call 327 [false, false] [.t 100, .t 101]), xv 96 102, xo 103 (.ext (.t 96) 0), xo 104 (.ext (.t 96) 1), xv 13 103, xv 14 104]) (.seq (xr [xv 105 14]) (.cond 105 (.seq (xr [xv 106 3, xv 107 12, xv 108 13, xo 109 (.iad 1 (.t 106) (.t 107)), ⟨none, .store 1 (.t 109) (.t 108), none⟩]) (xr [xv 110 7, xv 111 12, xo 112 (.mkSl [xz] 1 [(0, .t 111)]), xo 113 (.app 1 8 (.t 110) (.t 112)), xv 7 113])) (.skip))))))) (xr [xv 72 11, xo 73 (.bin .add (.t 72) (xi 1)), xv 11 73])))))))))))))) (.seq (xr [xv 114 3, xv 2 114]) (.ret))))))))))⟩
theorem c289 : chkC Try.prog num Try.f236.ntmps m289.body ((Try.f236.body).getD .skip) = true := by kernel_rfl
def m326 : MFn := ⟨57, [.t 4], .seq (xr [xo 4 (.mv (.c (.nil)))]) (.seq (.seq (xr [xv 6 0, xo 7 (.call 82 [false, false] [.t 6, xi 3]), xo 8 (.un .«not» (.t 7)), xv 9 8, xg 10 (.mv (.t 1)) 9 false, xg 11 (.mv (.t 0)) 9 false, xg 12 (.len (.t 11)) 9 false, xg 13 (.bin .sub (.t 12) (xi 1)) 9 false, xg 14 (.call 64 [false, false, false] [.t 10, xi 0, .t 13]) 9 false, xg 15 (.un .«not» (.t 14)) 9 false, xo 16 (.pick (.t 9) (.c (.bool true)) (.t 15))]) (.cond 16 (.seq (xr [xo 17 (.mkSl [xz] 0 []), xv 4 17]) (.ret)) (.skip))) (.seq (xr [xv 18 0, xv 19 1, xo 20 (.iad 5 (.t 18) (.t 19)), xo 21 (.load 5 true (.t 20)), xo 5 (.alloc [xz, xz, xz, xz, xz]), ⟨none, .store 5 (.t 5) (.t 21), none⟩]) (.seq (.seq (xr [xo 22 (.fad 0 (.t 5)), xo 23 (.load 1 false (.t 22))]) (.blk 0 (.seq (xr [xo 25 (.bin .eql (.t 23) (xi 13)), xv 24 25]) (.cond 24 (.seq (xr [xo 26 (.mkSl [xz] 0 []), xv 4 26]) (.ret)) (.seq (xr [xo 28 (.bin .eql (.t 23) (xi 11)), xv 27 28]) (.cond 27 (.seq (xr [xo 29 (.fad 4 (.t 5)), xo 30 (.load 1 false (.t 29)), xo 31 (.mkSl [xz] 1 [(0, .t 30)]), xv 4 31]) (.ret)) (.seq (xr [xo 33 (.bin .eql (.t 23) (xi 12)), xv 32 33]) (.cond 32 (.seq (.seq (xr [xo 34 (.fad 4 (.t 5)), xo 35 (.load 1 false (.t 34)), xv 36 1, xo 37 (.bin .add (.t 36) (xi 1)), xo 38 (.bin .lss (.t 35) (.t 37))]) (.cond 38 (.seq (xr [xo 39 (.fad 4 (.t 5)), xo 40 (.load 1 false (.t 39)), xv 41 1, xo 42 (.bin .add (.t 41) (xi 1)), xo 43 (.mkSl [xz] 2 [(0, .t 40), (1, .t 42)]), xv 4 43]) (.ret)) (.skip))) (.seq (xr [xo 44 (.fad 4 (.t 5)), xo 45 (.load 1 false (.t 44)), xv 46 1, xo 47 (.bin .add (.t 46) (xi 1)), xo 48 (.bin .gtr (.t 45) (.t 47))]) (.cond 48 (.seq (xr [xv 49 1, xo 50 (.bin .add (.t 49) (xi 1)), xo 51 (.fad 4 (.t 5)), xo 52 (.load 1 false (.t 51)), xo 53 (.mkSl [xz] 2 [(0, .t 50), (1, .t 52)]), xv 4 53]) (.ret)) (.skip)))) (.skip))))))))) (.seq (xr [xv 54 1, xo 55 (.bin .add (.t 54) (xi 1)), xo 56 (.mkSl [xz] 1 [(0, .t 55)]), xv 4 56]) (.ret)))))⟩
theorem c326 : chkC Try.prog num Try.f286.ntmps m326.body ((Try.f286.body).getD .skip) = true := by kernel_rfl
open Nat renaming reduceAdd → qA, reduceMul → qB, reduceEqDiff → qC, reduceBEq → qD
open Int renaming reduceToNat → qE, reduceEq → qF, reduceLT → qG, reduceLE → qH
open List renaming getD_eq_getElem?_getD → gD

-- S3
theorem copyBody_ok (l : List Ins) (hx : 40 * l.length ≤ 2 ^ 47) : CallOk Try.prog num 248 [.sl .bw 5 (inss l)] [] (.sl .own 5 (inss l)) := by
  refine enter (m := m248) (f := 248) (fn := Try.f174) Try.func174 (by kernel_rfl) rfl c248 rfl (by simp [Try.f174]) (by simp [bnds, bnd, nf_sl, nf_int, nf_bool, nf_str, ints_bnd]) (fun _ _ h => by simp [preH, look] at h) ?_
  unfold m248
  simp only [go_sem, qA, qB, qC, qD, qE, qF, qG, qH]
  repeat refine K ?_
  refine ⟨_, Sub.refl _, FinS_one ?_⟩; simp [-List.drop_one]
theorem bods_next (l : List (List Ins)) (i : Nat) (h : i < l.length) : bodies .own (l.take i) ++ [[AV.sl .own 5 (inss (l.getD i []))]] = bodies .own (l.take (i + 1)) := by
  rw [take_snoc l [] i h]
  simp [bodies]
set_option maxHeartbeats 4000000 in
theorem copyProg_ok (p : Prog) (hp : SmallP p) : CallOk Try.prog num 247 [.agg (progC .bw p)] [] (.agg (progC .own p)) := by
  obtain ⟨h1, h2, h3⟩ := hp
  refine enter (m := m247) (f := 247) (fn := Try.f173) Try.func173 (by kernel_rfl) rfl c247 rfl (by simp [Try.f173]) (by simp [bnds, bnd, nf_sl, nf_int, nf_bool, nf_str, ints_bnd]) (fun _ _ h => by simp [preH, look] at h) ?_
  unfold m247
  simp only [go_sem, qA, qB, qC, qD, qE, qF, qG, qH]
  repeat refine K ?_
  refine CA [] (copyInts_ok p.caps (by omega)) ?_
  try simp only [go_sem, qA, qB, qC, qD, qE, qF, qG, qH]
  repeat refine K ?_
  try simp only [go_sem, qA, qB, qC, qD, qE, qF, qG, qH]
  repeat refine K ?_
  refine loop_intro (ι := Nat) (fun i => .mk [(2, .ptr 11 0 0), (3, .ptr 13 0 0), (11, .sl .bw 1 (bodies .bw p.bods)), (12, .int .i64 p.bods.length), (13, .int .i64 i)] [(11, 2, [[.nil, .nil]]), (13, 2, [[.sl .own 1 (ints p.caps), .sl .own 1 (bodies .own (p.bods.take i))]])] 14) (fun i => i ≤ p.bods.length) (fun i => p.bods.length - i) 0 (by simp) ?_ ?_
  · refine Sub.trans (Sub.fold1 13 0 12 rfl (by simp [-gD] <;> omega) rfl (by decide) (by decide) rfl) ?_
    simp only [fS, fS3, qA, qC]
    refine Sub.shape [] id (by omega) ?_ ?_ ?_ ?_ <;> simp [ints_rep]
  · rintro i hi
    simp only [go_sem, qA, qB, qC, qD, qE, qF, qG, qH]
    refine branch_intro (fun hc => ?_) (fun hc => ?_)
    · simp only [decide_eq_true_eq] at hc
      have hl' : i < p.bods.length := by omega
      have hlt : (p.bods.take i).length = i := by simp; omega
      have hr := h3 _ (getD_mem p.bods i [] hl')
      have hn := bods_next p.bods i hl'
      have hlt2 : (p.bods.take (i + 1)).length = i + 1 := by simp; omega
      simp only [go_sem, qA, qB, qC, qD, qE, qF, qG, qH, bodies_getD .bw p.bods i hl', hlt]
      repeat refine K ?_
      refine DA [] (copyBody_ok (p.bods.getD i []) (by omega)) ?_
      try simp only [go_sem, qA, qB, qC, qD, qE, qF, qG, qH]
      repeat refine K ?_
      try simp only [go_sem, qA, qB, qC, qD, qE, qF, qG, qH, hlt, wrap_succ (i := i) (by omega)]
      repeat refine K ?_
      refine back_intro (i + 1) ?_ hl' (by omega)
      refine Sub.trans (Sub.foldLast 17 0 15 rfl (by simp [-gD] <;> omega) rfl (by decide) (by decide) rfl) ?_
      simp only [fS, fS3, qA, qC, hn]
      refine Sub.trans (Sub.fold1 13 1 17 rfl (by simp [-gD] <;> omega) rfl (by decide) (by decide) rfl) ?_
      simp only [fS, fS3, qA, qC, hlt2]
      refine Sub.shape [] id (by omega) ?_ ?_ ?_ ?_ <;> simp [ints_rep]
    · simp only [decide_eq_false_iff_not] at hc
      have he : p.bods.take i = p.bods := List.take_of_length_le (by omega)
      simp only [go_sem, qA, qB, qC, qD, qE, qF, qG, qH, he]
      repeat refine K ?_
      refine ⟨_, Sub.refl _, FinS_one ?_⟩; simp [-List.drop_one]
set_option maxHeartbeats 4000000 in
theorem l17Prog_ok (p : Prog) (hp : SmallP p) : CallOk Try.prog num 238 [.agg (progC .bw p)] [] (.agg (progC .own p)) := by
  obtain ⟨h1, h2, h3⟩ := hp
  refine enter (m := m238) (f := 238) (fn := Try.f151) Try.func151 (by kernel_rfl) rfl c238 rfl (by simp [Try.f151]) (by simp [bnds, bnd, nf_sl, nf_int, nf_bool, nf_str, ints_bnd]) (fun _ _ h => by simp [preH, look] at h) ?_
  unfold m238
  simp only [go_sem, qA, qB, qC, qD, qE, qF, qG, qH]
  repeat refine K ?_
  refine loop_intro (ι := Nat) (fun i => .mk [(1, .ptr 10 0 0), (2, .ptr 11 0 0), (3, .ptr 14 0 0), (4, .int .i64 i)] [(10, 2, [progC .bw p]), (11, 2, [[.nil, .nil]]), (14, 2, [[.sl .own 1 (ints p.caps), .sl .own 1 (bodies .own (p.bods.take i))]])] 15) (fun i => i ≤ p.bods.length) (fun i => p.bods.length - i) 0 (by simp) ?_ ?_
  · refine Sub.trans (Sub.fold1 14 0 13 rfl (by simp [-gD] <;> omega) rfl (by decide) (by decide) rfl) ?_
    simp only [fS, fS3, qA, qC]
    refine Sub.shape [] id (by omega) ?_ ?_ ?_ ?_ <;> simp [ints_rep]
  · rintro i hi
    simp only [go_sem, qA, qB, qC, qD, qE, qF, qG, qH]
    repeat refine K ?_
    refine branch_intro (fun hc => ?_) (fun hc => ?_)
    · simp only [decide_eq_true_eq] at hc
      have hl' : i < p.bods.length := by omega
      have hlt : (p.bods.take i).length = i := by simp; omega
      have hr := h3 _ (getD_mem p.bods i [] hl')
      have hn := bods_next p.bods i hl'
      have hlt2 : (p.bods.take (i + 1)).length = i + 1 := by simp; omega
      simp only [go_sem, qA, qB, qC, qD, qE, qF, qG, qH, bodies_getD .bw p.bods i hl', hlt, wrap_succ (i := i) (by omega)]
      repeat refine K ?_
      refine back_intro (i + 1) ?_ hl' (by omega)
      refine Sub.trans (Sub.foldLast 19 0 17 rfl (by simp [-gD] <;> omega) rfl (by decide) (by decide) rfl) ?_
      simp only [fS, fS3, qA, qC, hn]
      refine Sub.trans (Sub.fold1 14 1 19 rfl (by simp [-gD] <;> omega) rfl (by decide) (by decide) rfl) ?_
      simp only [fS, fS3, qA, qC, hlt2]
      refine Sub.shape [] id (by omega) ?_ ?_ ?_ ?_ <;> simp [ints_rep]
    · simp only [decide_eq_false_iff_not] at hc
      have he : p.bods.take i = p.bods := List.take_of_length_le (by omega)
      simp only [go_sem, qA, qB, qC, qD, qE, qF, qG, qH, he]
      repeat refine K ?_
      refine ⟨_, Sub.refl _, FinS_one ?_⟩; simp [-List.drop_one]

-- S3
set_option maxHeartbeats 4000000 in
theorem specNextOf_ok (l : List Ins) (a : Nat) (hb : bodyOk l 3 = true) (ha : a < l.length) : CallOk Try.prog num 326 [.sl .bw 5 (inss l), .int .i64 a] [] (.sl .own 1 (ints (nextOf l a))) := by
  obtain ⟨hl1, hl2⟩ := body_len hb
  have hg := inss_getD l a ha
  have hw : within (a : Int) 0 ((l.length : Int) - 1) = true := by rw [within_iff]; omega
  have hw1 : IntKind.i64.wrap ((a : Int) + 1) = (a : Int) + 1 := wrap64 (by omega) (by omega)
  have hw2 : IntKind.i64.wrap ((l.length : Int) - 1) = (l.length : Int) - 1 := wrap64 (by omega) (by omega)
  refine enter (m := m326) (f := 326) (fn := Try.f286) Try.func286 (by kernel_rfl) rfl c326 rfl (by simp [Try.f286]) (by simp [bnds, bnd, nf_sl, nf_int, nf_bool, nf_str, ints_bnd]) (fun _ _ h => by simp [preH, look] at h) ?_
  unfold m326
  simp only [go_sem, qA, qB, qC, qD, qE, qF, qG, qH]
  repeat refine K ?_
  refine CA [] (specBodyOk_ok l 3 (by omega) (by omega) (by omega)) ?_
  try simp only [go_sem, qA, qB, qC, qD, qE, qF, qG, qH]
  repeat refine K ?_
  try simp only [go_sem, qA, qB, qC, qD, qE, qF, qG, qH, hb, hw2]
  repeat refine K ?_
  refine CA [] (l1In_ok (a : Int) 0 ((l.length : Int) - 1)) ?_
  try simp only [go_sem, qA, qB, qC, qD, qE, qF, qG, qH]
  repeat refine K ?_
  try simp only [go_sem, qA, qB, qC, qD, qE, qF, qG, qH, hw, hg]
  repeat refine K ?_
  unfold nextOf
  generalize l.getD a default = x at hg
  simp only
  by_cases h13 : x.op = 13
  · try simp only [go_sem, qA, qB, qC, qD, qE, qF, qG, qH, h13]
    repeat refine K ?_
    refine ⟨_, Sub.refl _, FinS_one ?_⟩; simp [-List.drop_one]
    all_goals (try simp [h13, ints])
  by_cases h11 : x.op = 11
  · try simp only [go_sem, qA, qB, qC, qD, qE, qF, qG, qH, h13, h11]
    repeat refine K ?_
    refine ⟨_, Sub.refl _, FinS_one ?_⟩; simp [-List.drop_one]
    all_goals (try simp [h13, h11, ints])
  by_cases h12 : x.op = 12
  · by_cases h1 : x.n < (a : Int) + 1
    · try simp only [go_sem, qA, qB, qC, qD, qE, qF, qG, qH, h13, h11, h12, hw1, h1]
      repeat refine K ?_
      refine ⟨_, Sub.refl _, FinS_one ?_⟩; simp [-List.drop_one]
      all_goals (try simp [h13, h11, h12, h1, ints])
    · by_cases h2 : (a : Int) + 1 < x.n
      · try simp only [go_sem, qA, qB, qC, qD, qE, qF, qG, qH, h13, h11, h12, hw1, h1, h2]
        repeat refine K ?_
        refine ⟨_, Sub.refl _, FinS_one ?_⟩; simp [-List.drop_one]
        all_goals (try simp [h13, h11, h12, h1, h2, ints])
      · try simp only [go_sem, qA, qB, qC, qD, qE, qF, qG, qH, h13, h11, h12, hw1, h1, h2]
        repeat refine K ?_
        refine ⟨_, Sub.refl _, FinS_one ?_⟩; simp [-List.drop_one]
        all_goals (try simp [h13, h11, h12, h1, h2, ints])
  try simp only [go_sem, qA, qB, qC, qD, qE, qF, qG, qH, h13, h11, h12, hw1]
  repeat refine K ?_
  refine ⟨_, Sub.refl _, FinS_one ?_⟩; simp [-List.drop_one]
  all_goals (try simp [h13, h11, h12, ints])

-- S3
theorem fillK_length (S : KS) : (fillK S).length = S.length := by simp [fillK]
theorem fillK_getD (S : KS) (n : Nat) (h : n < S.length) : (fillK S).getD n [] = if kat S n = [] then List.replicate 4 kno else kat S n := by
  simp [fillK, kat, List.getD_eq_getElem?_getD, h]
def beenOf (S : KS) : List Bool := S.map fun v => decide (v ≠ [])
theorem beenOf_length (S : KS) : (beenOf S).length = S.length := by simp [beenOf]
theorem beenOf_getD (S : KS) (n : Nat) (h : n < S.length) : (beenOf S).getD n false = decide (kat S n ≠ []) := by
  simp [beenOf, kat, List.getD_eq_getElem?_getD, h]
theorem newv_ne {S : KS} {out : KV} {n : Nat} (hw : kat S n = [] ∨ WfV (kat S n)) (ho : WfV out) : (if kat S n = [] then out else meetK (kat S n) out) ≠ [] := by
  split
  · exact wf_ne ho
  · rename_i h
    exact wf_ne (meet_wf _ (hw.resolve_left h))
theorem fillK_upd {S : KS} {out : KV} {n : Nat} (hw : kat S n = [] ∨ WfV (kat S n)) (ho : WfV out) : fillK (upd S out n) = (fillK S).set n (if kat S n = [] then out else meetK (kat S n) out) := by
  have := newv_ne hw ho
  unfold upd
  generalize (if kat S n = [] then out else meetK (kat S n) out) = v at this
  unfold fillK
  rw [List.map_set, if_neg this]
theorem beenOf_upd {S : KS} {out : KV} {n : Nat} (hw : kat S n = [] ∨ WfV (kat S n)) (ho : WfV out) : beenOf (upd S out n) = (beenOf S).set n true := by
  have := newv_ne hw ho
  unfold upd
  generalize (if kat S n = [] then out else meetK (kat S n) out) = v at this
  unfold beenOf
  rw [List.map_set]
  simp [this]
theorem beenOf_set_same {S : KS} {n : Nat} (h : n < S.length) (hk : kat S n ≠ []) : (beenOf S).set n true = beenOf S := by
  have : (beenOf S).set n ((beenOf S).getD n false) = beenOf S := by
    have hb : n < (beenOf S).length := by rw [beenOf_length]; exact h
    rw [List.getD_eq_getElem?_getD, List.getElem?_eq_getElem hb, Option.getD_some, List.set_getElem_self]
  rw [beenOf_getD S n h, decide_eq_true hk] at this
  exact this
/-- The places yet to be looked at again. -/
structure Outer (l : List Ins) (S : KS) (td : List Int) : Prop where
  inv : KInv l S
  tok : ∀ t ∈ td, 0 ≤ t ∧ t.toNat < l.length ∧ kat S t.toNat ≠ []
  oth : ∀ b, b < l.length → (b : Int) ∉ td → EOk l S b
  me : mS S + td.length ≤ 5 * l.length
structure Inner (l : List Ins) (S : KS) (a : Nat) (tl : List Int) (out : KV) (j : Nat) (T : KS) (td : List Int) : Prop where
  inv : KInv l T
  tok : ∀ t ∈ td, 0 ≤ t ∧ t.toNat < l.length ∧ kat T t.toNat ≠ []
  oth : ∀ b, b < l.length → b ≠ a → (b : Int) ∉ td → EOk l T b
  own : (a : Int) ∉ td → kat T a = kat S a
  edg : ∀ i, i < j → kat T ((nextOf l a).getD i 0).toNat ≠ [] ∧ vle out (kat T ((nextOf l a).getD i 0).toNat)
  me : mS T + td.length ≤ mS S + tl.length
  me2 : 2 * mS T + td.length ≤ 2 * mS S + tl.length
theorem inner_start {l : List Ins} {S : KS} {a : Int} {tl : List Int} {out : KV} (h : Outer l S (a :: tl)) : Inner l S a.toNat tl out 0 S tl := by
  have ha := (h.tok a (by simp)).1
  refine ⟨h.inv, fun t ht => h.tok t (by simp [ht]), fun b hb hne hn => h.oth b hb ?_, fun _ => rfl, fun i hi => by omega, Nat.le_refl _, Nat.le_refl _⟩
  intro hm
  rcases List.mem_cons.1 hm with e | hm
  · exact hne (by omega)
  · exact hn hm
theorem inner_step {l : List Ins} {S T : KS} {a : Nat} {tl td : List Int} {out : KV} {j : Nat} (hb : bodyOk l 3 = true) (ha : a < l.length) (hS : KInv l S) (hs : kat S a ≠ []) (ho : out = behind (l.getD a default) (kat S a)) (h : Inner l S a tl out j T td)
    (hj : j < (nextOf l a).length) (hd : updD T out ((nextOf l a).getD j 0).toNat = true) : Inner l S a tl out (j + 1) (upd T out ((nextOf l a).getD j 0).toNat) (td ++ [(nextOf l a).getD j 0]) := by
  have hm := getD_mem (nextOf l a) j 0 hj
  have hn := next_in hb ha _ hm
  generalize hne : (nextOf l a).getD j 0 = n at hm hn hd ⊢
  have hn' : n.toNat < T.length := by rw [h.inv.len]; exact hn.2
  have hwo : WfV out := ho ▸ behind_wf _ ((hS.wf a).resolve_left hs)
  have hw := h.inv.wf n.toNat
  have hle := upd_le hn' hw hwo
  have hmm := upd_meas hn' hw hwo
  have hlt := hmm.2 hd
  have hold : ∀ b, b ≠ n.toNat → kat (upd T out n.toNat) b = kat T b := fun b hbn => by rw [upd_at T out n.toNat b hn', if_neg hbn]
  refine ⟨upd_inv h.inv hn.2 hwo fun U hU => ho ▸ out_le hS ha (body_regs hb ha) hs U hU n hm, fun t ht => ?_, fun b hbl hba hbn => ?_, fun han => ?_, fun i hi => ?_, ?_, ?_⟩
  · rcases List.mem_append.1 ht with ht | ht
    · have := h.tok t ht
      refine ⟨this.1, this.2.1, ?_⟩
      rcases hle t.toNat with e | e
      · exact absurd e this.2.2
      · exact e.1
    · rw [List.mem_singleton.1 ht]
      exact ⟨hn.1, hn.2, (upd_new hn' hw hwo).1⟩
  · have hbn' : b ≠ n.toNat := fun e => hbn (by rw [e]; simp; right; omega)
    exact eok_keep hle (hold b hbn') (h.oth b hbl hba fun hm => hbn (by simp [hm]))
  · have han' : a ≠ n.toNat := fun e => han (by rw [e]; simp; right; omega)
    rw [hold a han']
    exact h.own fun hm => han (by simp [hm])
  · by_cases hij : i < j
    · have := h.edg i hij
      rcases hle ((nextOf l a).getD i 0).toNat with e | e
      · exact absurd e this.1
      · exact ⟨e.1, vle_trans this.2 e.2⟩
    · have : i = j := by omega
      subst this
      rw [hne]
      exact upd_new hn' hw hwo
  · have := h.me
    simp only [List.length_append, List.length_singleton]
    omega
  · have := h.me2
    simp only [List.length_append, List.length_singleton]
    omega
theorem inner_skip {l : List Ins} {S T : KS} {a : Nat} {tl td : List Int} {out : KV} {j : Nat} (hb : bodyOk l 3 = true) (ha : a < l.length) (hwo : WfV out) (h : Inner l S a tl out j T td)
    (hj : j < (nextOf l a).length) (hd : updD T out ((nextOf l a).getD j 0).toNat = false) : Inner l S a tl out (j + 1) T td := by
  have hm := getD_mem (nextOf l a) j 0 hj
  have hn := next_in hb ha _ hm
  refine ⟨h.inv, h.tok, h.oth, h.own, fun i hi => ?_, h.me, h.me2⟩
  by_cases hij : i < j
  · exact h.edg i hij
  · have : i = j := by omega
    subst this
    have hn' : ((nextOf l a).getD i 0).toNat < T.length := by rw [h.inv.len]; exact hn.2
    have := upd_new hn' (h.inv.wf _) hwo
    rw [upd_same hd] at this
    exact this
theorem inner_end {l : List Ins} {S T : KS} {a : Int} {tl td : List Int} {out : KV} (hO : Outer l S (a :: tl)) (ho : out = behind (l.getD a.toNat default) (kat S a.toNat)) (h : Inner l S a.toNat tl out (nextOf l a.toNat).length T td) : Outer l T td := by
  refine ⟨h.inv, h.tok, fun b hb hn => ?_, by have := h.me; have := hO.me; simp only [List.length_cons] at this; omega⟩
  by_cases hba : b = a.toNat
  · subst hba
    intro hs n hm
    rw [h.own hn] at hs ⊢
    obtain ⟨i, hi, e⟩ := List.getElem_of_mem hm
    have := h.edg i hi
    have e' : (nextOf l a.toNat).getD i 0 = n := by rw [← e]; simp [List.getD_eq_getElem?_getD, hi]
    rw [e', ho] at this
    exact this
  · exact h.oth b hb hba hn
theorem mS_start {n : Nat} (h : 0 < n) : mS (kstart n) + 1 = 5 * n := by
  have ht : ∀ n, tots wS (List.replicate n ([] : KV)) = 5 * n := by
    intro n
    induction n with
    | zero => rfl
    | succ n ih => rw [List.replicate_succ, tots, ih]; have : wS [] = 5 := rfl; omega
  have hs := tots_set wS [] (List.replicate n ([] : KV)) 0 kinit (by simpa using h)
  have e : wS ((List.replicate n ([] : KV)).getD 0 []) = 5 := by
    cases n with
    | zero => omega
    | succ n => rfl
  have e2 : wS kinit = 4 := by decide
  rw [ht n, e, e2] at hs
  unfold mS kstart
  omega
theorem outer_start {l : List Ins} (hb : bodyOk l 3 = true) : Outer l (kstart l.length) [0] := by
  have hl := (body_len hb).1
  refine ⟨kstart_inv hl, fun t ht => ?_, fun b hbl hn => ?_, by have := mS_start hl; simp only [List.length_singleton]; omega⟩
  · rw [List.mem_singleton.1 ht]
    refine ⟨by omega, by omega, ?_⟩
    rw [kstart_at _ _ hl]
    decide
  · intro hs
    rw [kstart_at _ _ hl, if_neg (fun e => hn (by rw [e]; simp))] at hs
    exact absurd rfl hs
theorem outer_end {l : List Ins} {S : KS} (h : Outer l S []) : IsLfp l S := ⟨h.inv, fun a ha => h.oth a ha (by simp)⟩
def none4 : KV := List.replicate 4 ⟨false, 0⟩
def ini (j : Nat) : KV := List.replicate j ⟨true, 0⟩ ++ List.replicate (4 - j) ⟨false, 0⟩
theorem fillK_start (n : Nat) (h : 0 < n) : fillK (kstart n) = (List.replicate n none4).set 0 (ini 4) := by
  unfold fillK kstart
  rw [List.map_set, List.map_replicate]
  rfl
theorem beenOf_start (n : Nat) (h : 0 < n) : beenOf (kstart n) = (List.replicate n false).set 0 true := by
  unfold beenOf kstart
  rw [List.map_set, List.map_replicate]
  rfl

-- S3
theorem ini_length (j : Nat) (h : j ≤ 4) : (ini j).length = 4 := by simp [ini]; omega
theorem ini_step : ∀ j, j < 4 → (ini j).set j ⟨true, 0⟩ = ini (j + 1) := by
  intro j h
  rcases j with _ | _ | _ | _ | j
  · rfl
  · rfl
  · rfl
  · rfl
  · omega
theorem rep_snocK (n : Nat) (v : KV) : List.replicate n v ++ [v] = List.replicate (n + 1) v := by rw [List.replicate_succ']
theorem none4_row : [[AV.bool false, AV.int IntKind.i64 0], [AV.bool false, AV.int IntKind.i64 0], [AV.bool false, AV.int IntKind.i64 0], [AV.bool false, AV.int IntKind.i64 0]] = knowns none4 := rfl
theorem set_sameG {α : Type} (l : List α) (i : Nat) (d : α) (h : i < l.length) : l.set i (l.getD i d) = l := by
  rw [List.getD_eq_getElem?_getD, List.getElem?_eq_getElem h, Option.getD_some, List.set_getElem_self]
theorem fillK_same (S : KS) (n : Nat) (h : n < S.length) (hk : kat S n ≠ []) : (knownss .own (fillK S)).set n [.sl .own 2 (knowns (kat S n))] = knownss .own (fillK S) := by
  have e := set_sameG (fillK S) n [] (by rw [fillK_length]; exact h)
  rw [fillK_getD S n h, if_neg hk] at e
  rw [knownss_set, e]
theorem none4_length : none4.length = 4 := rfl
set_option maxHeartbeats 4000000 in
theorem specKnownAt_ok (l : List Ins) (Kx : KS) (hl : l.length < 2 ^ 47) (hK : bodyOk l 3 = true → IsLfp l Kx) : CallOk Try.prog num 289 [.sl .bw 5 (inss l)] [] (.sl .own 1 (knownss .own (knownRes l Kx))) := by
  refine enter (m := m289) (f := 289) (fn := Try.f236) Try.func236 (by kernel_rfl) rfl c289 rfl (by simp [Try.f236]) (by simp [bnds, bnd, nf_sl, nf_int, nf_bool, nf_str, ints_bnd]) (fun _ _ h => by simp [preH, look] at h) ?_
  unfold m289
  simp only [go_sem, qA, qB, qC, qD, qE, qF, qG, qH]
  repeat refine K ?_
  refine CA [] (specBodyOk_ok l 3 (by omega) (by omega) (by omega)) ?_
  try simp only [go_sem, qA, qB, qC, qD, qE, qF, qG, qH]
  repeat refine K ?_
  cases hb : bodyOk l 3
  · try simp only [go_sem, qA, qB, qC, qD, qE, qF, qG, qH, hb]
    repeat refine K ?_
    refine ⟨_, Sub.refl _, FinS_one ?_⟩; simp [-List.drop_one]
    all_goals (try simp [knownRes, hb])
  have hK' := hK hb
  obtain ⟨hl1, hl2⟩ := body_len hb
  have hn4 : none4.length = 4 := rfl
  have hbr : (List.replicate l.length false).length = l.length := by simp
  try simp only [go_sem, qA, qB, qC, qD, qE, qF, qG, qH, hb]
  repeat refine K ?_
  refine loop_intro (ι := Nat) (fun i => .mk [(0, .sl .bw 5 (inss l)), (3, .ns 10 0 i), (4, .ns 11 0 l.length), (5, .int .i64 i)] [(10, 1, knownss .own (List.replicate i none4)), (11, 1, boolsR (List.replicate l.length false))] 12) (fun i => i ≤ l.length) (fun i => l.length - i) 0 (by simp) ?_ ?_
  · refine Sub.shape [] id (by omega) ?_ ?_ ?_ ?_ <;> simp [ints_rep]
    all_goals (exact .inl (boolsR_rep _ _))
  · intro i hi
    simp only [go_sem, qA, qB, qC, qD, qE, qF, qG, qH]
    refine branch_intro (fun hc => ?_) (fun hc => ?_)
    · simp only [decide_eq_true_eq] at hc
      have hi' : i < l.length := by omega
      simp only [go_sem, qA, qB, qC, qD, qE, qF, qG, qH, wrap_succ (i := i) (by omega)]
      repeat refine K ?_
      rw [none4_row]
      refine back_intro (i + 1) ?_ hi' (by omega)
      refine Sub.trans (Sub.foldLast 14 0 12 rfl (by simp [-gD] <;> omega) rfl (by decide) (by decide) rfl) ?_
      simp only [fS, fS3, qA, qC, hn4]
      refine Sub.shape [] (fun n => if n = 10 then 14 else n) (by omega) ?_ ?_ ?_ ?_ <;> simp [ints_rep]
      all_goals (rw [knownss_one, knownss_append, rep_snocK])
      all_goals (exact .inl rfl)
    · simp only [decide_eq_false_iff_not] at hc
      have he : i = l.length := by omega
      subst he
      simp only [go_sem, qA, qB, qC, qD, qE, qF, qG, qH]
      repeat refine K ?_
      refine loop_intro (ι := Nat) (fun j => .mk [(0, .sl .bw 5 (inss l)), (3, .ns 10 0 l.length), (4, .ns 11 0 l.length), (6, .int .i64 j)] [(10, 1, knownss .own ((List.replicate l.length none4).set 0 (ini j))), (11, 1, boolsR (List.replicate l.length false))] 12) (fun j => j ≤ 4) (fun j => 4 - j) 0 (by simp) ?_ ?_
      · have e0 : (List.replicate l.length none4).set 0 (ini 0) = List.replicate l.length none4 := by
          have e : ini 0 = none4 := rfl
          rw [e]
          cases h : l.length with
          | zero => rfl
          | succ n => rfl
        refine Sub.shape [] id (by omega) ?_ ?_ ?_ ?_ <;> simp [ints_rep]
        all_goals (rw [e0])
        all_goals (exact .inl rfl)
      · intro j hj
        have hil := ini_length j hj
        have hlen : ((List.replicate l.length none4).set 0 (ini j)).length = l.length := by simp
        have hg0 : (knownss .own ((List.replicate l.length none4).set 0 (ini j))).getD 0 [] = [.sl .own 2 (knowns (ini j))] := by
          rw [knownss_getD _ _ _ (by omega), getD_set_self _ _ _ _ (by simp; omega)]
        simp only [go_sem, qA, qB, qC, qD, qE, qF, qG, qH]
        refine branch_intro (fun hc => ?_) (fun hc => ?_)
        · simp only [decide_eq_true_eq] at hc
          have hj' : j < 4 := by omega
          have hgj := knowns_getD (ini j) j (by omega)
          simp only [go_sem, qA, qB, qC, qD, qE, qF, qG, qH, hg0, hgj, hlen, hil, wrap_succ (i := j) (by omega), knowns_set, ini_step j hj']
          repeat refine K ?_
          refine back_intro (j + 1) ?_ hj' (by omega)
          have hil2 := ini_length (j + 1) hj'
          refine Sub.trans (Sub.foldAt 10 0 12 rfl (by simp [-gD] <;> omega) rfl (by decide) (by decide) rfl (by simp <;> omega)) ?_
          simp only [fS, fS3, qA, qC, hil2]
          refine Sub.shape [] id (by omega) ?_ ?_ ?_ ?_ <;> simp [ints_rep]
          all_goals (rw [knownss_set, List.set_set])
          all_goals (exact .inl rfl)
        · simp only [decide_eq_false_iff_not] at hc
          have he : j = 4 := by omega
          subst he
          have hgb : (boolsR (List.replicate l.length false)).getD 0 [] = [.bool false] := by
            rw [boolsR_getD _ _ (by omega)]
            cases h : l.length with
            | zero => omega
            | succ n => rfl
          simp only [go_sem, qA, qB, qC, qD, qE, qF, qG, qH, hlen, hgb, hbr]
          repeat refine K ?_
          refine loop_intro (ι := KS × List Int) (fun q => .mk [(0, .sl .bw 5 (inss l)), (3, .ns 10 0 l.length), (4, .ns 11 0 l.length), (7, .ns 12 0 q.2.length)] [(10, 1, knownss .own (fillK q.1)), (11, 1, boolsR (beenOf q.1)), (12, 1, ints q.2)] 13) (fun q => Outer l q.1 q.2) (fun q => 2 * mS q.1 + q.2.length) (kstart l.length, [0]) (outer_start hb) ?_ ?_
          · have e1 := fillK_start l.length (by omega)
            have e2 := beenOf_start l.length (by omega)
            refine Sub.shape [] id (by omega) ?_ ?_ ?_ ?_ <;> simp [ints_rep]
            all_goals (try rw [e1])
            all_goals (try rw [e2])
            all_goals (exact ⟨.inl rfl, .inl rfl, .inl rfl⟩)
          · rintro ⟨T, td⟩ hO
            have hO' := hO
            simp only at hO'
            have hTl := hO'.inv.len
            have hfl := fillK_length T
            have hbl := beenOf_length T
            simp only [go_sem, qA, qB, qC, qD, qE, qF, qG, qH]
            refine branch_intro (fun hc => ?_) (fun hc => ?_)
            · rcases td with _ | ⟨a, tl⟩
              · simp at hc
              have hat := hO'.tok a (by simp)
              obtain ⟨n, rfl⟩ : ∃ n : Nat, a = (n : Int) := ⟨a.toNat, by omega⟩
              simp only [Int.toNat_natCast] at hat
              have hgi := inss_getD l n hat.2.1
              have hgk : (knownss .own (fillK T)).getD n [] = [.sl .own 2 (knowns (kat T n))] := by
                rw [knownss_getD _ _ _ (by omega), fillK_getD T n (by omega), if_neg hat.2.2]
              have hwn := (hO'.inv.wf n).resolve_left hat.2.2
              have hme := hO'.me
              simp only [List.length_cons] at hme
              have hg7 : (ints ((n : Int) :: tl)).getD 0 [] = [.int .i64 n] := rfl
              simp only [go_sem, qA, qB, qC, qD, qE, qF, qG, qH, hg7, hgi, hgk, hfl, hTl]
              repeat refine K ?_
              have hwo := behind_wf (l.getD n default) hwn
              have hk4 := hwn.1
              refine DA [] (specBehind_ok (l.getD n default) (kat T n) (body_regs hb hat.2.1) hwn.1) ?_
              try simp only [go_sem, qA, qB, qC, qD, qE, qF, qG, qH]
              repeat refine K ?_
              try simp only [go_sem, qA, qB, qC, qD, qE, qF, qG, qH, hk4]
              repeat refine K ?_
              refine CA [] (specNextOf_ok l n hb hat.2.1) ?_
              try simp only [go_sem, qA, qB, qC, qD, qE, qF, qG, qH]
              repeat refine K ?_
              try simp only [go_sem, qA, qB, qC, qD, qE, qF, qG, qH, hk4]
              repeat refine K ?_
              have htk : List.take (tl.length + 1 - 1) tl = tl := by simp
              rw [htk]
              have ho : behind (l.getD n default) (kat T n) = behind (l.getD n default) (kat T n) := rfl
              have hin := next_in hb hat.2.1
              have hst := inner_start (out := behind (l.getD n default) (kat T n)) hO'
              have hen := fun U td => inner_end (T := U) (td := td) hO' rfl
              have hsk := fun U td j => inner_skip (S := T) (tl := tl) (T := U) (td := td) (j := j) hb hat.2.1 hwo
              have hsp := fun U td j => inner_step (S := T) (tl := tl) (T := U) (td := td) (j := j) hb hat.2.1 hO'.inv hat.2.2 ho
              simp only [Int.toNat_natCast] at hst hen
              generalize behind (l.getD n default) (kat T n) = out at hwo hst hen hsk hsp ho ⊢
              have hol := hwo.1
              have hot : List.take 4 out = out := List.take_of_length_le (by omega)
              rw [hol]
              refine loop_intro (ι := Nat × KS × List Int) (fun q => .mk [(0, .sl .bw 5 (inss l)), (3, .ns 10 0 l.length), (4, .ns 11 0 l.length), (7, .ns 12 0 q.2.2.length), (9, .ns 13 0 4), (10, .ns 14 0 (nextOf l n).length), (11, .int .i64 q.1)] [(10, 1, knownss .own (fillK q.2.1)), (11, 1, boolsR (beenOf q.2.1)), (12, 1, ints q.2.2), (13, 2, knowns out), (14, 1, ints (nextOf l n))] 15) (fun q => q.1 ≤ (nextOf l n).length ∧ Inner l T n tl out q.1 q.2.1 q.2.2) (fun q => (nextOf l n).length - q.1) (0, T, tl) ⟨Nat.zero_le _, hst⟩ ?_ ?_
              · refine Sub.trans (Sub.foldAt 10 0 15 rfl (by simp [-gD] <;> omega) rfl (by decide) (by decide) rfl (by simp <;> omega)) ?_
                simp only [fS, fS3, qA, qC, hk4]
                refine Sub.shape [] (fun m => if m = 12 then 14 else if m = 13 then 16 else if m = 14 then 17 else m) (by omega) ?_ ?_ ?_ ?_ <;> simp [ints_rep]
                all_goals (exact .inl (fillK_same T n (by omega) hat.2.2))
              · rintro ⟨j, U, td⟩ ⟨hj, hI⟩
                simp only at hj hI
                have hUl := hI.inv.len
                have hful := fillK_length U
                have hbul := beenOf_length U
                simp only [go_sem, qA, qB, qC, qD, qE, qF, qG, qH]
                refine branch_intro (fun hc2 => ?_) (fun hc2 => ?_)
                · simp only [decide_eq_true_eq] at hc2
                  have hj' : j < (nextOf l n).length := by omega
                  have hgn := ints_getD (nextOf l n) j hj'
                  have hmn := hin _ (getD_mem (nextOf l n) j 0 hj')
                  have hsk' := hsk U td j hI hj'
                  have hsp' := hsp U td j hI hj'
                  generalize (nextOf l n).getD j 0 = w at hgn hmn hsk' hsp'
                  obtain ⟨m, rfl⟩ : ∃ m : Nat, w = (m : Int) := ⟨w.toNat, by omega⟩
                  simp only [Int.toNat_natCast] at hmn hsk' hsp'
                  have hgb2 : (boolsR (beenOf U)).getD m [] = [.bool (decide (kat U m ≠ []))] := by rw [boolsR_getD _ _ (by omega), beenOf_getD U m (by omega)]
                  have hme2 := hI.me
                  have hnl : (nextOf l n).length ≤ 2 := by
                    unfold nextOf
                    simp only
                    repeat' split
                    all_goals simp
                  by_cases hkm : kat U m = []
                  · have hd : updD U out m = true := by unfold updD; rw [decide_eq_true hkm]; rfl
                    have hnx := hsp' hd
                    have hfu := fillK_upd (out := out) (.inl hkm) hwo
                    have hbu := beenOf_upd (out := out) (.inl hkm) hwo
                    rw [if_pos hkm] at hfu
                    rw [show decide (kat U m ≠ []) = false from decide_eq_false (fun h => h hkm)] at hgb2
                    have hgk2 : (knownss .own (fillK U)).getD m [] = [.sl .own 2 (knowns (List.replicate 4 kno))] := by
                      rw [knownss_getD _ _ _ (by omega), fillK_getD U m (by omega), if_pos hkm]
                    simp only [go_sem, qA, qB, qC, qD, qE, qF, qG, qH, hgn, hgb2, hgk2, hful, hbul, hUl, boolsR_set, hol, hot, wrap_succ (i := j) (by omega)]
                    repeat refine K ?_
                    refine back_intro (j + 1, upd U out m, td ++ [(m : Int)]) ?_ ⟨hj', hnx⟩ (by simp only; omega)
                    refine Sub.trans (Sub.foldAt 10 0 16 rfl (by simp [-gD] <;> omega) rfl (by decide) (by decide) rfl (by simp <;> omega)) ?_
                    simp only [fS, fS3, qA, qC, hol, hot]
                    simp only [hfu, hbu, List.length_append, List.length_singleton]
                    refine Sub.shape [] (fun q => if q = 12 then 18 else q) (by omega) ?_ ?_ ?_ ?_ <;> simp [ints_rep]
                    all_goals (rw [knownss_set, ints_one, ints_append])
                    all_goals (exact ⟨.inl rfl, .inl rfl⟩)
                  · rw [show decide (kat U m ≠ []) = true from decide_eq_true hkm] at hgb2
                    have hgk2 : (knownss .own (fillK U)).getD m [] = [.sl .own 2 (knowns (kat U m))] := by
                      rw [knownss_getD _ _ _ (by omega), fillK_getD U m (by omega), if_neg hkm]
                    have hwm := (hI.inv.wf m).resolve_left hkm
                    have hm4 := hwm.1
                    have hmt : List.take 4 (kat U m) = kat U m := List.take_of_length_le (by omega)
                    have hsame := fillK_same U m (by omega) hkm
                    have hfu := fillK_upd (out := out) (.inr hwm) hwo
                    have hbu := beenOf_upd (out := out) (.inr hwm) hwo
                    rw [beenOf_set_same (by omega) hkm] at hbu
                    rw [if_neg hkm] at hfu
                    have hud : updD U out m = lessK (kat U m) out := by unfold updD; rw [decide_eq_false hkm]; rfl
                    rw [hud] at hsk' hsp'
                    have hmml := meetK_length (kat U m) out
                    rw [hm4] at hmml
                    have hmmt : List.take 4 (meetK (kat U m) out) = meetK (kat U m) out := List.take_of_length_le (by omega)
                    generalize kat U m = v at hgk2 hm4 hmt hsame hfu hud hsk' hsp' hmml hmmt
                    simp only [go_sem, qA, qB, qC, qD, qE, qF, qG, qH, hgn, hgb2, hgk2, hful, hbul, hUl, hm4, hmt, hot]
                    repeat refine K ?_
                    refine CA [] (specMeet_ok v out (by omega) (by omega)) ?_
                    try simp only [go_sem, qA, qB, qC, qD, qE, qF, qG, qH]
                    repeat refine K ?_
                    cases hls : lessK v out
                    · try simp only [go_sem, qA, qB, qC, qD, qE, qF, qG, qH, hls, hm4, hmml, hmmt, hmt, hot, wrap_succ (i := j) (by omega)]
                      repeat refine K ?_
                      refine back_intro (j + 1, U, td) ?_ ⟨hj', hsk' hls⟩ (by simp only; omega)
                      refine Sub.trans (Sub.foldAt 10 0 15 rfl (by simp [-gD] <;> omega) rfl (by decide) (by decide) rfl (by simp <;> omega)) ?_
                      simp only [fS, fS3, qA, qC, hm4, hmt]
                      simp only [hsame]
                      refine Sub.shape [] id (by omega) ?_ ?_ ?_ ?_ <;> simp [ints_rep]
                      all_goals trace_state
                    · have hgs : ∀ r, ((knownss .own (fillK U)).set m r).getD m [] = r := fun r => getD_set_self _ _ _ _ (by rw [knownss_length]; omega)
                      try simp only [go_sem, qA, qB, qC, qD, qE, qF, qG, qH, hls, hm4, hmml, hmmt, hmt, hot, hgs, wrap_succ (i := j) (by omega)]
                      repeat refine K ?_
                      refine back_intro (j + 1, upd U out m, td ++ [(m : Int)]) ?_ ⟨hj', hsp' hls⟩ (by simp only; omega)
                      refine Sub.trans (Sub.foldAt 10 0 16 rfl (by simp [-gD] <;> omega) rfl (by decide) (by decide) rfl (by simp <;> omega)) ?_
                      simp only [fS, fS3, qA, qC, hmml, hmmt]
                      simp only [hfu, hbu, List.length_append, List.length_singleton]
                      refine Sub.shape [] (fun q => if q = 12 then 18 else q) (by omega) ?_ ?_ ?_ ?_ <;> simp [ints_rep]
                      all_goals (rw [knownss_set, ints_one, ints_append])
                      all_goals (exact ⟨.inl rfl, .inl rfl⟩)
                · simp only [decide_eq_false_iff_not] at hc2
                  have he : j = (nextOf l n).length := by omega
                  subst he
                  have hE := hen U td hI
                  have hm2 := hI.me2
                  simp only [go_sem, qA, qB, qC, qD, qE, qF, qG, qH, hful, hUl]
                  repeat refine K ?_
                  refine back_intro (U, td) ?_ hE (by simp only; omega)
                  refine Sub.shape [] id (by omega) ?_ ?_ ?_ ?_ <;> simp [ints_rep]
            · have he : td = [] := by
                cases td with
                | nil => rfl
                | cons a tl => simp at hc
              subst he
              have hTK := lfp_unique (outer_end hO') hK'
              rw [hTK] at hfl hTl ⊢
              have hKl : (fillK Kx).length = l.length := by rw [hfl, hTl]
              simp only [go_sem, qA, qB, qC, qD, qE, qF, qG, qH]
              repeat refine K ?_
              refine ⟨_, Sub.refl _, FinS_one ?_⟩; simp [-List.drop_one]
              all_goals (try simp [knownRes, hb, hKl])


end Go.Sep
