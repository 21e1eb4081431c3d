/- Contracts of functions. -/
import Derived.Test.YtoijhndfkfliiaaConb
namespace Go.Sep
open Go.Proofs
set_option linter.unusedSimpArgs false
set_option linter.unusedVariables false
set_option maxRecDepth 100000
def m60 : MFn := ⟨22, [.t 6], .seq (xr [xo 6 (.mv (xi 0))]) (.seq (.seq (xr [xv 7 0]) (.blk 0 (.seq (xr [xo 9 (.bin .eql (.t 7) (xi 2)), xv 8 9]) (.cond 8 (.seq (xr [xv 10 1, xv 11 2, xo 12 (.bin .add (.t 10) (.t 11)), xv 6 12]) (.ret)) (.seq (xr [xo 14 (.bin .eql (.t 7) (xi 3)), xv 13 14]) (.cond 13 (.seq (xr [xv 15 1, xv 16 2, xo 17 (.bin .sub (.t 15) (.t 16)), xv 6 17]) (.ret)) (.skip))))))) (.seq (xr [xv 18 1, xv 19 2, xo 20 (.bin .lss (.t 18) (.t 19)), xo 21 (.call 78 [false] [.t 20]), xv 6 21]) (.ret)))⟩
theorem c60 : chkC Try.prog num Try.f181.ntmps m60.body ((Try.f181.body).getD .skip) = true := by kernel_rfl
def m61 : MFn := ⟨116, [.t 6], .seq (xr [xo 5 (.box (.t 2)), xo 6 (.mv (.c (.bool false)))]) (.seq (.seq (xr [xo 14 (.fad 0 (.t 5)), xo 15 (.load 1 false (.t 14))]) (.blk 0 (.seq (.seq (xr [xo 17 (.bin .eql (.t 15) (xi 5)), xv 16 17]) (.cond 16 (.skip) (xr [xo 18 (.bin .eql (.t 15) (xi 7)), xv 16 18]))) (.cond 16 (.seq (.dreg (.take 0 (xv 20 1) (.take 1 (xo 21 (.nilck (.t 20))) (.take 2 (xo 22 (.load 3 true (.t 21))) (.take 3 (xv 23 0) (.take 4 (xo 24 (.nilck (.t 23))) (.take 5 (xo 25 (.fad 1 (.t 24))) (.take 6 (xo 26 (.load 1 false (.t 25))) (.take 7 (xo 27 (.fad 2 (.t 5))) (.take 8 (xo 28 (.load 1 false (.t 27))) (.take 9 (xo 29 (.iad 1 (.t 26) (.t 28))) (.take 10 (xo 30 (.load 1 false (.t 29))) (.both 11 [2, 10] (xo 31 (.call 79 [false, false] [.t 22, .t 30])) (.take 12 (xv 19 31) (.take 13 (xo 32 (.ext (.t 19) 0)) (.take 14 (xo 33 (.ext (.t 19) 1)) (.only 15 [] (xo 7 (.alloc [.int .i64 0, .nil, .bool false])) (.only 16 [0, 1, 2, 3, 4, 5, 6, 7, 8, 9, 10, 12, 13] ⟨none, .store 3 (.t 7) (.t 32), none⟩ (.only 17 [0, 1, 2, 3, 4, 5, 6, 7, 8, 9, 10, 12, 13, 14] (xv 8 33) (.done))))))) 15 [] (xo 7 (.alloc [.int .i64 0, .nil, .bool false])) (.only 11 [2, 10] (xo 31 (.call 79 [false, false] [.t 22, .t 30])) (.only 12 [] (xv 19 31) (.take 13 (xo 32 (.ext (.t 19) 0)) (.take 14 (xo 33 (.ext (.t 19) 1)) (.only 16 [0, 1, 2, 3, 4, 5, 6, 7, 8, 9, 10, 13] ⟨none, .store 3 (.t 7) (.t 32), none⟩ (.only 17 [0, 1, 2, 3, 4, 5, 6, 7, 8, 9, 10, 13, 14] (xv 8 33) (.done)))))))))))))))))))) (.seq (xr [xv 34 1, xo 35 (.load 3 true (.t 7)), xo 36 (.nilck (.t 34)), ⟨none, .store 3 (.t 36) (.t 35), none⟩]) (.seq (.seq (xr [xo 37 (.fad 0 (.t 5)), xo 38 (.load 1 false (.t 37)), xo 39 (.bin .eql (.t 38) (xi 7)), xv 40 39, xg 41 (.mv (.t 8)) 40 true, xg 42 (.bin .neq (.t 41) (xi 2)) 40 true, xo 43 (.pick (.t 40) (.t 42) (.c (.bool false)))]) (.cond 43 (.dreg (.take 0 (xv 44 0) (.take 1 (xo 45 (.nilck (.t 44))) (.take 2 (xo 46 (.fad 1 (.t 45))) (.take 3 (xo 47 (.load 1 false (.t 46))) (.take 4 (xo 48 (.fad 1 (.t 5))) (.take 5 (xo 49 (.load 1 false (.t 48))) (.only 6 [] (xv 50 8) (.only 7 [] (xo 51 (.bin .eql (.t 50) (xi 0))) (.only 8 [] (xo 52 (.call 78 [false] [.t 51])) (.only 9 [0, 1, 2, 3, 4, 5] (xo 53 (.iad 1 (.t 47) (.t 49))) (.only 10 [0, 1, 2, 3, 4, 5] ⟨none, .store 1 (.t 53) (.t 52), none⟩ (.done))))))))))))) (.skip))) (.seq (xr [xv 54 8, xo 55 (.bin .neq (.t 54) (xi 2)), xv 6 55]) (.ret))))) (.seq (.seq (xr [xo 57 (.bin .eql (.t 15) (xi 6)), xv 56 57]) (.cond 56 (.skip) (xr [xo 58 (.bin .eql (.t 15) (xi 8)), xv 56 58]))) (.cond 56 (.seq (xr [xv 60 1, xo 61 (.nilck (.t 60)), xo 62 (.load 3 true (.t 61)), xo 63 (.call 80 [false] [.t 62]), xv 59 63, xo 64 (.ext (.t 59) 0), xo 65 (.ext (.t 59) 1), xo 66 (.ext (.t 59) 2), xo 9 (.alloc [.int .i64 0, .nil, .bool false]), ⟨none, .store 3 (.t 9) (.t 64), none⟩, xv 10 65, xv 11 66]) (.seq (xr [xv 67 1, xo 68 (.load 3 true (.t 9)), xo 69 (.nilck (.t 67)), ⟨none, .store 3 (.t 69) (.t 68), none⟩]) (.seq (.dreg (.take 0 (xv 70 0) (.take 1 (xo 71 (.nilck (.t 70))) (.take 2 (xo 72 (.fad 1 (.t 71))) (.take 3 (xo 73 (.load 1 false (.t 72))) (.take 4 (xo 74 (.fad 1 (.t 5))) (.take 5 (xo 75 (.load 1 false (.t 74))) (.take 6 (xv 76 0) (.take 7 (xo 77 (.nilck (.t 76))) (.take 8 (xo 78 (.fad 1 (.t 77))) (.take 9 (xo 79 (.load 1 false (.t 78))) (.take 10 (xo 80 (.fad 3 (.t 5))) (.take 11 (xo 81 (.load 1 false (.t 80))) (.take 12 (xv 82 10) (.only 13 [] (xv 83 11) (.only 14 [] (xo 84 (.bin .eql (.t 83) (xi 0))) (.only 15 [] (xo 85 (.call 78 [false] [.t 84])) (.only 16 [0, 1, 2, 3, 4, 5, 9, 12] (xo 86 (.iad 1 (.t 73) (.t 75))) (.only 17 [0, 1, 2, 3, 4, 5, 9, 12] ⟨none, .store 1 (.t 86) (.t 82), none⟩ (.only 18 [0, 1, 2, 3, 4, 5, 6, 7, 8, 9, 10, 11, 12] (xo 87 (.iad 1 (.t 79) (.t 81))) (.only 19 [0, 1, 2, 3, 4, 5, 6, 7, 8, 9, 10, 11, 12] ⟨none, .store 1 (.t 87) (.t 85), none⟩ (.done)))))))))))))))))))))) (.seq (.seq (xr [xv 88 11, xo 89 (.bin .eql (.t 88) (xi 3)), xv 90 89, xg 91 (.fad 0 (.t 5)) 90 true, xg 92 (.load 1 false (.t 91)) 90 true, xg 93 (.bin .eql (.t 92) (xi 8)) 90 true, xo 94 (.pick (.t 90) (.t 93) (.c (.bool false)))]) (.cond 94 (.dreg (.take 0 (xv 95 0) (.take 1 (xo 96 (.nilck (.t 95))) (.take 2 (xo 97 (.fad 1 (.t 96))) (.take 3 (xo 98 (.load 1 false (.t 97))) (.only 4 [] (xo 99 (.fad 3 (.t 5))) (.only 5 [] (xo 100 (.load 1 false (.t 99))) (.only 6 [0, 1, 2, 3] (xo 101 (.iad 1 (.t 98) (.t 100))) (.only 7 [0, 1, 2, 3] ⟨none, .store 1 (.t 101) (xi 2), none⟩ (.done)))))))))) (.skip))) (.seq (xr [xv 102 11, xo 103 (.bin .neq (.t 102) (xi 2)), xv 6 103]) (.ret)))))) (.skip))))))) (.seq (xr [xv 105 1, xo 106 (.nilck (.t 105)), xo 107 (.load 3 true (.t 106)), xo 108 (.call 81 [false] [.t 107]), xv 104 108, xo 109 (.ext (.t 104) 0), xo 110 (.ext (.t 104) 1), xo 12 (.alloc [.int .i64 0, .nil, .bool false]), ⟨none, .store 3 (.t 12) (.t 109), none⟩, xv 13 110]) (.seq (xr [xv 111 1, xo 112 (.load 3 true (.t 12)), xo 113 (.nilck (.t 111)), ⟨none, .store 3 (.t 113) (.t 112), none⟩]) (.seq (xr [xv 114 13, xo 115 (.bin .neq (.t 114) (xi 2)), xv 6 115]) (.ret)))))⟩
theorem c61 : chkC Try.prog num Try.f182.ntmps m61.body ((Try.f182.body).getD .skip) = true := by kernel_rfl
open Nat renaming reduceAdd → qA, reduceMul → qB, reduceEqDiff → qC, reduceBEq → qD
open Int renaming reduceToNat → qE, reduceEq → qF, reduceLT → qG, reduceLE → qH
open List renaming getD_eq_getElem?_getD → gD

def compute (op a b : Int) : Int := if op = 2 then IntKind.i64.wrap (a + b) else if op = 3 then IntKind.i64.wrap (a - b) else numb (decide (a < b))

theorem compute_ok (op a b : Int) : CallOk Try.prog num 60 [.int .i64 op, .int .i64 a, .int .i64 b] [] (.int .i64 (compute op a b)) := by
  refine enter (m := m60) (f := 60) (fn := Try.f181) Try.func181 (by kernel_rfl) rfl c60 rfl (by simp [Try.f181]) (by simp [bnds, bnd, nf_sl, nf_int, nf_bool, nf_str, ints_bnd]) (fun _ _ h => by simp [preH, look] at h) ?_
  unfold m60
  by_cases h2 : op = 2
  · simp only [go_sem, qA, qB, qC, qD, qE, qF, qG, qH, h2]
    repeat refine K ?_
    refine ⟨_, Sub.refl _, ?_⟩; simp [FinS, nilL, nilV, oneOr, -List.drop_one]
    simp [compute, h2]
  by_cases h3 : op = 3
  · simp only [go_sem, qA, qB, qC, qD, qE, qF, qG, qH, h3]
    repeat refine K ?_
    refine ⟨_, Sub.refl _, ?_⟩; simp [FinS, nilL, nilV, oneOr, -List.drop_one]
    simp [compute, h3]
  simp only [go_sem, qA, qB, qC, qD, qE, qF, qG, qH, h2, h3]
  repeat refine K ?_
  refine CA [] (number_ok (decide (a < b))) ?_
  try simp only [go_sem, qA, qB, qC, qD, qE, qF, qG, qH]
  repeat refine K ?_
  refine ⟨_, Sub.refl _, ?_⟩; simp [FinS, nilL, nilV, oneOr, -List.drop_one]
  simp [compute, h2, h3]

def reg (t : Thread) (r : Int) : Int := t.regs.getD r.toNat 0
def setReg (t : Thread) (r v : Int) : Thread := ⟨t.at_, t.regs.set r.toNat v, t.st⟩

/-- A place of a channel. -/
def chanStep (t : Thread) (c : Chan) (x : Ins) : Thread × Chan × Bool :=
  if x.op = 5 ∨ x.op = 7 then
    (if x.op = 7 ∧ ¬ (chanSend c (reg t x.a)).2 = 2 then setReg t x.r (numb (decide ((chanSend c (reg t x.a)).2 = 0))) else t, (chanSend c (reg t x.a)).1, !decide ((chanSend c (reg t x.a)).2 = 2))
  else if x.op = 6 ∨ x.op = 8 then
    (if (chanTake c).2.2 = 3 ∧ x.op = 8 then setReg (setReg (setReg t x.r (chanTake c).2.1) x.b (numb (decide ((chanTake c).2.2 = 0)))) x.b 2 else setReg (setReg t x.r (chanTake c).2.1) x.b (numb (decide ((chanTake c).2.2 = 0))), (chanTake c).1, !decide ((chanTake c).2.2 = 2))
  else (t, (chanClose c).1, !decide ((chanClose c).2 = 2))

theorem getD_set_self {α : Type} (l : List α) (i : Nat) (x d : α) (h : i < l.length) : (l.set i x).getD i d = x := by simp [List.getD_eq_getElem?_getD, h]

theorem set_getD_self {α : Type} (l : List α) (i : Nat) (d : α) (h : i < l.length) : l.set i (l.getD i d) = l := by
  rw [List.getD_eq_getElem?_getD, List.getElem?_eq_getElem h, Option.getD_some, List.set_getElem_self]

set_option maxHeartbeats 4000000 in
theorem chanStep_ok (ths : List Thread) (i : Nat) (chs : List Chan) (j : Nat) (x : Ins) (hi : i < ths.length) (hj : j < chs.length) (hr : (ths.getD i default).regs.length = 4) (hc : (chs.getD j default).list.length < 2 ^ 40)
    (r0 : 0 ≤ x.r) (r1 : x.r.toNat < 4) (a0 : 0 ≤ x.a) (a1 : x.a.toNat < 4) (b0 : 0 ≤ x.b) (b1 : x.b.toNat < 4) :
    CallOk Try.prog num 61 [.ptr 0 i 0, .ptr 1 j 0, .agg (insC x)] [(0, some (3, threads .own ths), some (3, threads .own (ths.set i (chanStep (ths.getD i default) (chs.getD j default) x).1))),
      (1, some (3, chans .own chs), some (3, chans .own (chs.set j (chanStep (ths.getD i default) (chs.getD j default) x).2.1)))] (.bool (chanStep (ths.getD i default) (chs.getD j default) x).2.2) := by
  refine enter (m := m61) (f := 61) (fn := Try.f182) Try.func182 (by kernel_rfl) rfl c61 rfl (by simp [Try.f182]) (by simp [bnds, bnd, nf_sl, nf_int, nf_bool, nf_str, ints_bnd]) (by first | (simp [preH, hb_nil, hb_cons, ints_bnd]; done) | exact hb_cons _ _ _ _ ((hb_nil _).2 trivial) (by decide) (by simp [ints_bnd, bndr, bnds, bnd])) ?_
  unfold m61
  have gt : ∀ r, ((threads .own ths).set i r).getD i [] = r := fun r => getD_set_self _ _ _ _ (by rw [threads_length]; exact hi)
  have gc : ∀ r, ((chans .own chs).set j r).getD j [] = r := fun r => getD_set_self _ _ _ _ (by rw [chans_length]; exact hj)
  have ra : x.a.toNat < (ths.getD i default).regs.length := by omega
  have rr : x.r.toNat < (ths.getD i default).regs.length := by omega
  have rb : x.b.toNat < (ths.getD i default).regs.length := by omega
  have rbs : ∀ v, x.b.toNat < ((ths.getD i default).regs.set x.r.toNat v).length := fun v => by rw [List.length_set]; exact rb
  have rbs2 : ∀ v u, x.b.toNat < (((ths.getD i default).regs.set x.r.toNat v).set x.b.toNat u).length := fun v u => by rw [List.length_set, List.length_set]; exact rb
  have rr : x.r.toNat < (ths.getD i default).regs.length := by omega
  have rb : x.b.toNat < (ths.getD i default).regs.length := by omega
  have rbs : ∀ v, x.b.toNat < ((ths.getD i default).regs.set x.r.toNat v).length := fun v => by rw [List.length_set]; exact rb
  have rbs2 : ∀ v u, x.b.toNat < (((ths.getD i default).regs.set x.r.toNat v).set x.b.toNat u).length := fun v u => by rw [List.length_set, List.length_set]; exact rb
  by_cases h5 : x.op = 5
  · simp only [go_sem, qA, qB, qC, qD, qE, qF, qG, qH, h5, threads_getD .own ths i hi, chans_getD .own chs j hj, gt, gc, ints_getD (ths.getD i default).regs x.a.toNat ra]
    repeat refine K ?_
    refine ⟨?_, ?_⟩
    · repeat refine K ?_
      refine DA [] (implChanSend_ok (chs.getD j default) ((ths.getD i default).regs.getD x.a.toNat 0) (by omega)) ?_
      try simp only [go_sem, qA, qB, qC, qD, qE, qF, qG, qH]
      repeat refine K ?_
      simp only [go_sem, qA, qB, qC, qD, qE, qF, qG, qH, h5, gt, gc]
      repeat refine K ?_
      apply fin_one
      · refine Sub.trans (Sub.foldAt 0 1 12 rfl (by simp [-gD] <;> omega) rfl (by decide) (by decide) rfl (by simp <;> omega)) ?_
        simp only [fS, qA, qC]
        refine Sub.trans (Sub.foldAt 1 1 13 rfl (by simp [-gD] <;> omega) rfl (by decide) (by decide) rfl (by simp <;> omega)) ?_
        simp only [fS, qA, qC]
        exact Sub.refl _
      · simp [-List.drop_one, -gD, threads_set, chans_set, chanStep, reg, setReg, h5] <;> (first | rfl | exact ⟨rfl, rfl⟩ | exact ⟨rfl, rfl, rfl⟩ | skip)
    · repeat refine K ?_
      refine DA [] (implChanSend_ok (chs.getD j default) ((ths.getD i default).regs.getD x.a.toNat 0) (by omega)) ?_
      try simp only [go_sem, qA, qB, qC, qD, qE, qF, qG, qH]
      repeat refine K ?_
      simp only [go_sem, qA, qB, qC, qD, qE, qF, qG, qH, h5, gt, gc]
      repeat refine K ?_
      apply fin_one
      · refine Sub.trans (Sub.foldAt 0 1 12 rfl (by simp [-gD] <;> omega) rfl (by decide) (by decide) rfl (by simp <;> omega)) ?_
        simp only [fS, qA, qC]
        refine Sub.trans (Sub.foldAt 1 1 14 rfl (by simp [-gD] <;> omega) rfl (by decide) (by decide) rfl (by simp <;> omega)) ?_
        simp only [fS, qA, qC]
        exact Sub.refl _
      · simp [-List.drop_one, -gD, threads_set, chans_set, chanStep, reg, setReg, h5] <;> (first | rfl | exact ⟨rfl, rfl⟩ | exact ⟨rfl, rfl, rfl⟩ | skip)
  by_cases h7 : x.op = 7
  · simp only [go_sem, qA, qB, qC, qD, qE, qF, qG, qH, h7, threads_getD .own ths i hi, chans_getD .own chs j hj, gt, gc, ints_getD (ths.getD i default).regs x.a.toNat ra]
    repeat refine K ?_
    refine ⟨?_, ?_⟩
    · repeat refine K ?_
      refine DA [] (implChanSend_ok (chs.getD j default) ((ths.getD i default).regs.getD x.a.toNat 0) (by omega)) ?_
      try simp only [go_sem, qA, qB, qC, qD, qE, qF, qG, qH]
      repeat refine K ?_
      simp only [go_sem, qA, qB, qC, qD, qE, qF, qG, qH, h7, gt, gc]
      repeat refine K ?_
      by_cases hk : (chanSend (chs.getD j default) ((ths.getD i default).regs.getD x.a.toNat 0)).2 = 2
      · simp only [go_sem, qA, qB, qC, qD, qE, qF, qG, qH, hk, gt, gc, h7]
        repeat refine K ?_
        apply fin_one
        · refine Sub.trans (Sub.foldAt 0 1 12 rfl (by simp [-gD] <;> omega) rfl (by decide) (by decide) rfl (by simp <;> omega)) ?_
          simp only [fS, qA, qC]
          refine Sub.trans (Sub.foldAt 1 1 13 rfl (by simp [-gD] <;> omega) rfl (by decide) (by decide) rfl (by simp <;> omega)) ?_
          simp only [fS, qA, qC]
          exact Sub.refl _
        · simp [-List.drop_one, -gD, threads_set, chans_set, chanStep, reg, setReg, h7, hk] <;> (first | rfl | exact ⟨rfl, rfl⟩ | exact ⟨rfl, rfl, rfl⟩ | skip)
      · simp only [go_sem, qA, qB, qC, qD, qE, qF, qG, qH, hk, gt, gc, h7]
        repeat refine K ?_
        refine DA [] (number_ok (decide ((chanSend (chs.getD j default) ((ths.getD i default).regs.getD x.a.toNat 0)).2 = 0))) ?_
        try simp only [go_sem, qA, qB, qC, qD, qE, qF, qG, qH]
        repeat refine K ?_
        simp only [go_sem, qA, qB, qC, qD, qE, qF, qG, qH, gt, gc, h7, ints_getD (ths.getD i default).regs x.r.toNat rr, hk]
        repeat refine K ?_
        apply fin_one
        · refine Sub.trans (Sub.foldAt 0 1 12 rfl (by simp [-gD] <;> omega) rfl (by decide) (by decide) rfl (by simp <;> omega)) ?_
          simp only [fS, qA, qC]
          refine Sub.trans (Sub.foldAt 1 1 13 rfl (by simp [-gD] <;> omega) rfl (by decide) (by decide) rfl (by simp <;> omega)) ?_
          simp only [fS, qA, qC]
          exact Sub.refl _
        · simp [-List.drop_one, -gD, threads_set, chans_set, chanStep, reg, setReg, h7, hk] <;> (first | rfl | exact ⟨rfl, rfl⟩ | exact ⟨rfl, rfl, rfl⟩ | skip)
    · repeat refine K ?_
      refine DA [] (implChanSend_ok (chs.getD j default) ((ths.getD i default).regs.getD x.a.toNat 0) (by omega)) ?_
      try simp only [go_sem, qA, qB, qC, qD, qE, qF, qG, qH]
      repeat refine K ?_
      simp only [go_sem, qA, qB, qC, qD, qE, qF, qG, qH, h7, gt, gc]
      repeat refine K ?_
      by_cases hk : (chanSend (chs.getD j default) ((ths.getD i default).regs.getD x.a.toNat 0)).2 = 2
      · simp only [go_sem, qA, qB, qC, qD, qE, qF, qG, qH, hk, gt, gc, h7]
        repeat refine K ?_
        apply fin_one
        · refine Sub.trans (Sub.foldAt 0 1 12 rfl (by simp [-gD] <;> omega) rfl (by decide) (by decide) rfl (by simp <;> omega)) ?_
          simp only [fS, qA, qC]
          refine Sub.trans (Sub.foldAt 1 1 14 rfl (by simp [-gD] <;> omega) rfl (by decide) (by decide) rfl (by simp <;> omega)) ?_
          simp only [fS, qA, qC]
          exact Sub.refl _
        · simp [-List.drop_one, -gD, threads_set, chans_set, chanStep, reg, setReg, h7, hk] <;> (first | rfl | exact ⟨rfl, rfl⟩ | exact ⟨rfl, rfl, rfl⟩ | skip)
      · simp only [go_sem, qA, qB, qC, qD, qE, qF, qG, qH, hk, gt, gc, h7]
        repeat refine K ?_
        refine DA [] (number_ok (decide ((chanSend (chs.getD j default) ((ths.getD i default).regs.getD x.a.toNat 0)).2 = 0))) ?_
        try simp only [go_sem, qA, qB, qC, qD, qE, qF, qG, qH]
        repeat refine K ?_
        simp only [go_sem, qA, qB, qC, qD, qE, qF, qG, qH, gt, gc, h7, ints_getD (ths.getD i default).regs x.r.toNat rr, hk]
        repeat refine K ?_
        apply fin_one
        · refine Sub.trans (Sub.foldAt 0 1 12 rfl (by simp [-gD] <;> omega) rfl (by decide) (by decide) rfl (by simp <;> omega)) ?_
          simp only [fS, qA, qC]
          refine Sub.trans (Sub.foldAt 1 1 14 rfl (by simp [-gD] <;> omega) rfl (by decide) (by decide) rfl (by simp <;> omega)) ?_
          simp only [fS, qA, qC]
          exact Sub.refl _
        · simp [-List.drop_one, -gD, threads_set, chans_set, chanStep, reg, setReg, h7, hk] <;> (first | rfl | exact ⟨rfl, rfl⟩ | exact ⟨rfl, rfl, rfl⟩ | skip)
  by_cases h6 : x.op = 6
  · simp only [go_sem, qA, qB, qC, qD, qE, qF, qG, qH, h6, threads_getD .own ths i hi, chans_getD .own chs j hj, gt, gc]
    repeat refine K ?_
    refine CA [] (implChanTake_ok (chs.getD j default) (by omega)) ?_
    try simp only [go_sem, qA, qB, qC, qD, qE, qF, qG, qH]
    repeat refine K ?_
    simp only [go_sem, qA, qB, qC, qD, qE, qF, qG, qH, h6, threads_getD .own ths i hi, chans_getD .own chs j hj, gt, gc]
    repeat refine K ?_
    refine DA [] (number_ok (decide ((chanTake (chs.getD j default)).2.2 = 0))) ?_
    try simp only [go_sem, qA, qB, qC, qD, qE, qF, qG, qH]
    repeat refine K ?_
    simp only [go_sem, qA, qB, qC, qD, qE, qF, qG, qH, gt, gc, h6, ints_getD (ths.getD i default).regs x.r.toNat rr, ints_getD _ x.b.toNat (rbs _)]
    repeat refine K ?_
    by_cases hk : (chanTake (chs.getD j default)).2.2 = 3
    · simp only [go_sem, qA, qB, qC, qD, qE, qF, qG, qH, hk, gt, gc, h6]
      repeat refine K ?_
      apply fin_one
      · refine Sub.trans (Sub.foldAt 0 1 14 rfl (by simp [-gD] <;> omega) rfl (by decide) (by decide) rfl (by simp <;> omega)) ?_
        simp only [fS, qA, qC]
        refine Sub.trans (Sub.foldAt 1 1 12 rfl (by simp [-gD] <;> omega) rfl (by decide) (by decide) rfl (by simp <;> omega)) ?_
        simp only [fS, qA, qC]
        exact Sub.refl _
      · simp [-List.drop_one, -gD, threads_set, chans_set, chanStep, reg, setReg, h6, hk] <;> (first | rfl | exact ⟨rfl, rfl⟩ | exact ⟨rfl, rfl, rfl⟩ | skip)
    · simp only [go_sem, qA, qB, qC, qD, qE, qF, qG, qH, hk, gt, gc, h6]
      repeat refine K ?_
      apply fin_one
      · refine Sub.trans (Sub.foldAt 0 1 14 rfl (by simp [-gD] <;> omega) rfl (by decide) (by decide) rfl (by simp <;> omega)) ?_
        simp only [fS, qA, qC]
        refine Sub.trans (Sub.foldAt 1 1 12 rfl (by simp [-gD] <;> omega) rfl (by decide) (by decide) rfl (by simp <;> omega)) ?_
        simp only [fS, qA, qC]
        exact Sub.refl _
      · simp [-List.drop_one, -gD, threads_set, chans_set, chanStep, reg, setReg, h6, hk] <;> (first | rfl | exact ⟨rfl, rfl⟩ | exact ⟨rfl, rfl, rfl⟩ | skip)
  by_cases h8 : x.op = 8
  · simp only [go_sem, qA, qB, qC, qD, qE, qF, qG, qH, h8, threads_getD .own ths i hi, chans_getD .own chs j hj, gt, gc]
    repeat refine K ?_
    refine CA [] (implChanTake_ok (chs.getD j default) (by omega)) ?_
    try simp only [go_sem, qA, qB, qC, qD, qE, qF, qG, qH]
    repeat refine K ?_
    simp only [go_sem, qA, qB, qC, qD, qE, qF, qG, qH, h8, threads_getD .own ths i hi, chans_getD .own chs j hj, gt, gc]
    repeat refine K ?_
    refine DA [] (number_ok (decide ((chanTake (chs.getD j default)).2.2 = 0))) ?_
    try simp only [go_sem, qA, qB, qC, qD, qE, qF, qG, qH]
    repeat refine K ?_
    simp only [go_sem, qA, qB, qC, qD, qE, qF, qG, qH, gt, gc, h8, ints_getD (ths.getD i default).regs x.r.toNat rr, ints_getD _ x.b.toNat (rbs _)]
    repeat refine K ?_
    by_cases hk : (chanTake (chs.getD j default)).2.2 = 3
    · simp only [go_sem, qA, qB, qC, qD, qE, qF, qG, qH, hk, gt, gc, h8, ints_getD _ x.b.toNat (rbs2 _ _)]
      repeat refine K ?_
      apply fin_one
      · refine Sub.trans (Sub.foldAt 0 1 14 rfl (by simp [-gD] <;> omega) rfl (by decide) (by decide) rfl (by simp <;> omega)) ?_
        simp only [fS, qA, qC]
        refine Sub.trans (Sub.foldAt 1 1 12 rfl (by simp [-gD] <;> omega) rfl (by decide) (by decide) rfl (by simp <;> omega)) ?_
        simp only [fS, qA, qC]
        exact Sub.refl _
      · simp [-List.drop_one, -gD, threads_set, chans_set, chanStep, reg, setReg, h8, hk] <;> (first | rfl | exact ⟨rfl, rfl⟩ | exact ⟨rfl, rfl, rfl⟩ | skip)
    · simp only [go_sem, qA, qB, qC, qD, qE, qF, qG, qH, hk, gt, gc, h8]
      repeat refine K ?_
      apply fin_one
      · refine Sub.trans (Sub.foldAt 0 1 14 rfl (by simp [-gD] <;> omega) rfl (by decide) (by decide) rfl (by simp <;> omega)) ?_
        simp only [fS, qA, qC]
        refine Sub.trans (Sub.foldAt 1 1 12 rfl (by simp [-gD] <;> omega) rfl (by decide) (by decide) rfl (by simp <;> omega)) ?_
        simp only [fS, qA, qC]
        exact Sub.refl _
      · simp [-List.drop_one, -gD, threads_set, chans_set, chanStep, reg, setReg, h8, hk] <;> (first | rfl | exact ⟨rfl, rfl⟩ | exact ⟨rfl, rfl, rfl⟩ | skip)
  simp only [go_sem, qA, qB, qC, qD, qE, qF, qG, qH, h5, h6, h7, h8, chans_getD .own chs j hj, gc]
  repeat refine K ?_
  refine CA [] (implChanClose_ok (chs.getD j default) (by omega)) ?_
  try simp only [go_sem, qA, qB, qC, qD, qE, qF, qG, qH]
  repeat refine K ?_
  simp only [go_sem, qA, qB, qC, qD, qE, qF, qG, qH, h5, h6, h7, h8, gc]
  repeat refine K ?_
  apply fin_one
  · refine Sub.trans (Sub.foldAt 1 1 12 rfl (by simp [-gD] <;> omega) rfl (by decide) (by decide) rfl (by simp <;> omega)) ?_
    simp only [fS, qA, qC]
    exact Sub.refl _
  · simp [-List.drop_one, -gD, threads_set, chans_set, chanStep, h5, h6, h7, h8] <;> (first | rfl | exact ⟨rfl, rfl⟩ | exact ⟨rfl, rfl, rfl⟩ | skip)
    rw [set_getD_self ths i default hi]


end Go.Sep
