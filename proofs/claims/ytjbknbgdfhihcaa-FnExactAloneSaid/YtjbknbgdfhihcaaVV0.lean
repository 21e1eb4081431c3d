/- Contracts of functions. -/
import Derived.Test.YtjbknbgdfhihcaaVT0
namespace Go.Sep
open Go.Proofs
set_option linter.unusedSimpArgs false
set_option linter.unusedVariables false
set_option maxRecDepth 100000
open Nat renaming reduceAdd → qA, reduceMul → qB, reduceEqDiff → qC, reduceBEq → qD
open Int renaming reduceToNat → qE, reduceEq → qF, reduceLT → qG, reduceLE → qH
open List renaming getD_eq_getElem?_getD → gD
def m357 : MFn := ⟨201, [.cell 4 4 true, .t 5], .seq (xr [xb 2 0, xb 3 1, xo 4 (.alloc [.nil, .nil, .nil, .nil]), xo 5 (.mv (xi 0))]) (.seq (xr [xa 12 1 2, xl 13 12, xa 14 0 3, xl 15 14, xo 16 (.iad 4 (.t 13) (.t 15)), xm 17 4 16, xo 6 (.alloc [.int .i64 0, .nil, .nil, .int .i64 0]), ⟨none, .store 4 (.t 6) (.t 17), none⟩]) (.seq (.dreg (.take 0 (xa 18 0 2) (.take 1 (xl 19 18) (.take 2 (xa 20 0 3) (.take 3 (xl 21 20) (.take 4 (xo 22 (.iad 1 (.t 19) (.t 21))) (.take 5 (xl 23 22) (.take 6 (xa 24 0 6) (.take 7 (xl 25 24) (.take 8 (xo 26 (.iad 5 (.t 23) (.t 25))) (.take 9 (xm 27 5 26) (.only 10 [] (xo 7 (.alloc [xz, xz, xz, xz, xz])) (.only 11 [0, 1, 2, 3, 4, 5, 6, 7, 8, 9] ⟨none, .store 5 (.t 7) (.t 27), none⟩ (.done)))))))))))))) (.seq (xr [xa 28 0 6, xl 29 28, xo 30 (.bin .add (.t 29) (xi 1)), xv 8 30]) (.seq (.seq (xr [xa 31 0 7, xl 32 31]) (.blk 0 (.seq (xr [xo 54 (.bin .eql (.t 32) (xi 1)), xv 53 54]) (.cond 53 (xr [xa 55 1 6, xl 56 55, xa 57 1 7, xl 58 57, xa 59 4 7, xl 60 59, xo 61 (.iad 1 (.t 56) (.t 58)), ⟨none, .store 1 (.t 61) (.t 60), none⟩]) (.seq (xr [xo 63 (.bin .eql (.t 32) (xi 2)), xv 62 63]) (.cond 62 (.dreg (.take 0 (xa 64 1 6) (.take 1 (xl 65 64) (.take 2 (xa 66 1 7) (.take 3 (xl 67 66) (.take 4 (xa 68 1 6) (.take 5 (xl 69 68) (.take 6 (xa 70 2 7) (.take 7 (xl 71 70) (.take 8 (xo 72 (.iad 1 (.t 69) (.t 71))) (.take 9 (xl 73 72) (.take 10 (xa 74 1 6) (.take 11 (xl 75 74) (.only 12 [] (xa 76 3 7) (.only 13 [] (xl 77 76) (.only 14 [11, 10] (xo 78 (.iad 1 (.t 75) (.t 77))) (.only 15 [14, 11, 10] (xl 79 78) (.only 16 [9, 15, 8, 14, 5, 7, 11, 4, 6, 10] (xo 80 (.bin .add (.t 73) (.t 79))) (.only 17 [0, 1, 2, 3, 4, 5, 6, 7, 8, 9, 10, 11] (xo 81 (.iad 1 (.t 65) (.t 67))) (.only 18 [0, 1, 2, 3, 4, 5, 6, 7, 8, 9, 10, 11] ⟨none, .store 1 (.t 81) (.t 80), none⟩ (.done))))))))))))))))))))) (.seq (xr [xo 83 (.bin .eql (.t 32) (xi 3)), xv 82 83]) (.cond 82 (.dreg (.take 0 (xa 84 1 6) (.take 1 (xl 85 84) (.take 2 (xa 86 1 7) (.take 3 (xl 87 86) (.take 4 (xa 88 1 6) (.take 5 (xl 89 88) (.take 6 (xa 90 2 7) (.take 7 (xl 91 90) (.take 8 (xo 92 (.iad 1 (.t 89) (.t 91))) (.take 9 (xl 93 92) (.take 10 (xa 94 1 6) (.take 11 (xl 95 94) (.only 12 [] (xa 96 3 7) (.only 13 [] (xl 97 96) (.only 14 [11, 10] (xo 98 (.iad 1 (.t 95) (.t 97))) (.only 15 [14, 11, 10] (xl 99 98) (.only 16 [9, 15, 8, 14, 5, 7, 11, 4, 6, 10] (xo 100 (.bin .sub (.t 93) (.t 99))) (.only 17 [0, 1, 2, 3, 4, 5, 6, 7, 8, 9, 10, 11] (xo 101 (.iad 1 (.t 85) (.t 87))) (.only 18 [0, 1, 2, 3, 4, 5, 6, 7, 8, 9, 10, 11] ⟨none, .store 1 (.t 101) (.t 100), none⟩ (.done))))))))))))))))))))) (.seq (xr [xo 103 (.bin .eql (.t 32) (xi 4)), xv 102 103]) (.cond 102 (.dreg (.take 0 (xa 104 1 6) (.take 1 (xl 105 104) (.take 2 (xa 106 1 7) (.take 3 (xl 107 106) (.take 4 (xa 108 1 6) (.take 5 (xl 109 108) (.take 6 (xa 110 2 7) (.take 7 (xl 111 110) (.take 8 (xo 112 (.iad 1 (.t 109) (.t 111))) (.take 9 (xl 113 112) (.take 10 (xa 114 1 6) (.take 11 (xl 115 114) (.only 12 [] (xa 116 3 7) (.only 13 [] (xl 117 116) (.only 14 [11, 10] (xo 118 (.iad 1 (.t 115) (.t 117))) (.only 15 [14, 11, 10] (xl 119 118) (.only 16 [9, 15, 8, 14, 5, 7, 11, 4, 6, 10] (xo 120 (.bin .lss (.t 113) (.t 119))) (.only 17 [16, 9, 15, 8, 14, 5, 7, 11, 4, 6, 10] (xc1 121 85 (.t 120)) (.only 18 [0, 1, 2, 3, 4, 5, 6, 7, 8, 9, 10, 11] (xo 122 (.iad 1 (.t 105) (.t 107))) (.only 19 [0, 1, 2, 3, 4, 5, 6, 7, 8, 9, 10, 11] ⟨none, .store 1 (.t 122) (.t 121), none⟩ (.done)))))))))))))))))))))) (.seq (xr [xo 124 (.bin .eql (.t 32) (xi 9)), xv 123 124]) (.cond 123 (.seq (.seq (xr [xa 125 3 2, xl 126 125, xe 127 126, xo 128 (.bin .eql (.t 127) (xi 4000))]) (.cond 128 (.seq (xr [xm 129 4 2, ⟨none, .store 4 (.t 4) (.t 129), none⟩, xo 5 (.mv (xi 3))]) (.ret)) (.skip))) (.dreg (.take 0 (xa 130 3 2) (.take 1 (xl 131 130) (.take 2 (xa 132 0 3) (.take 3 (xl 133 132) (.take 4 (xa 134 1 6) (.take 5 (xl 135 134) (.only 6 [] (xa 136 2 7) (.only 7 [] (xl 137 136) (.only 8 [5, 4] (xo 138 (.iad 1 (.t 135) (.t 137))) (.only 9 [8, 5, 4] (xl 139 138) (.only 10 [3, 9, 2, 8, 5, 4] (xo 140 (.build [xz, xz] [(0, 1, .t 133), (1, 1, .t 139)])) (.only 11 [10, 3, 9, 2, 8, 5, 4] (xo 141 (.mkSl [xz, xz] 1 [(0, .t 140)])) (.only 12 [1, 11, 0, 10, 3, 9, 2, 8, 5, 4] (xo 142 (.app 2 16 (.t 131) (.t 141))) (.only 13 [0, 1, 2, 3, 4, 5] (xa 143 3 2) (.only 14 [0, 1, 2, 3, 4, 5] ⟨none, .store 1 (.t 143) (.t 142), none⟩ (.done)))))))))))))))))) (.seq (xr [xo 145 (.bin .eql (.t 32) (xi 10)), xv 144 145]) (.cond 144 (xr [xa 146 4 7, xl 147 146, xv 8 147]) (.seq (xr [xo 149 (.bin .eql (.t 32) (xi 11)), xv 148 149]) (.cond 148 (.seq (xr [xa 150 1 6, xl 151 150, xa 152 2 7, xl 153 152, xo 154 (.iad 1 (.t 151) (.t 153)), xl 155 154, xo 156 (.bin .eql (.t 155) (xi 0))]) (.cond 156 (xr [xa 157 4 7, xl 158 157, xv 8 158]) (.skip))) (.seq (xr [xo 160 (.bin .eql (.t 32) (xi 12)), xv 159 160]) (.cond 159 (.seq (xr [xa 161 1 2, xl 162 161, xa 163 0 3, xl 164 163, xo 165 (.iad 4 (.t 162) (.t 164)), xa 166 3 165, ⟨none, .store 1 (.t 166) (xi 1), none⟩]) (.seq (xr [xm 167 4 2, ⟨none, .store 4 (.t 4) (.t 167), none⟩, xo 5 (.mv (xi 0))]) (.ret))) (.seq (xr [xo 169 (.bin .eql (.t 32) (xi 13)), xv 168 169]) (.cond 168 (.seq (xr [xa 170 1 2, xl 171 170, xa 172 0 3, xl 173 172, xo 174 (.iad 4 (.t 171) (.t 173)), xa 175 3 174, ⟨none, .store 1 (.t 175) (xi 2), none⟩]) (.seq (xr [xm 176 4 2, ⟨none, .store 4 (.t 4) (.t 176), none⟩, xo 5 (.mv (xi 0))]) (.ret))) (.seq (xr [xm 34 4 2, xm 35 2 3, xm 36 5 7, xo 37 (.call 365 [true, false, false] [.t 34, .t 35, .t 36]), xv 33 37, xo 38 (.ext (.t 33) 0), xo 39 (.ext (.t 33) 1), xo 40 (.ext (.t 33) 2), xo 9 (.alloc [.nil, .nil, .nil, .nil]), ⟨none, .store 4 (.t 9) (.t 38), none⟩, xv 10 39, xv 11 40]) (.seq (.seq (xr [xv 41 11]) (.cond 41 (.seq (xr [xm 42 4 2, ⟨none, .store 4 (.t 4) (.t 42), none⟩, xo 5 (.mv (xi 3))]) (.ret)) (.skip))) (.seq (xr [xm 43 4 9, ⟨none, .store 4 (.t 2) (.t 43), none⟩]) (.seq (xr [xv 44 10, xo 45 (.un .«not» (.t 44))]) (.cond 45 (.seq (xr [xa 46 1 2, xl 47 46, xa 48 0 3, xl 49 48, xo 50 (.iad 4 (.t 47) (.t 49)), xa 51 3 50, ⟨none, .store 1 (.t 51) (xi 2), none⟩]) (.seq (xr [xm 52 4 2, ⟨none, .store 4 (.t 4) (.t 52), none⟩, xo 5 (.mv (xi 0))]) (.ret))) (.skip)))))))))))))))))))))))))) (.seq (.seq (xr [xv 177 8, xa 178 0 2, xl 179 178, xa 180 0 3, xl 181 180, xo 182 (.iad 1 (.t 179) (.t 181)), xl 183 182, xe 184 183, xo 185 (.bin .geq (.t 177) (.t 184))]) (.cond 185 (.seq (xr [xa 186 1 2, xl 187 186, xa 188 0 3, xl 189 188, xo 190 (.iad 4 (.t 187) (.t 189)), xa 191 3 190, ⟨none, .store 1 (.t 191) (xi 2), none⟩]) (.seq (xr [xm 192 4 2, ⟨none, .store 4 (.t 4) (.t 192), none⟩, xo 5 (.mv (xi 0))]) (.ret))) (.skip))) (.seq (xr [xa 193 1 2, xl 194 193, xa 195 0 3, xl 196 195, xv 197 8, xo 198 (.iad 4 (.t 194) (.t 196)), xa 199 0 198, ⟨none, .store 1 (.t 199) (.t 197), none⟩]) (.seq (xr [xm 200 4 2, ⟨none, .store 4 (.t 4) (.t 200), none⟩, xo 5 (.mv (xi 0))]) (.ret))))))))⟩
theorem c357 : chkC Try.prog num Try.f29.ntmps m357.body ((Try.f29.body).getD .skip) = true := by kernel_rfl
attribute [go_sem] mchF mchV mchK
theorem memFull_eq {m : Machine} {i : Nat} {s : Step} (hM : MOk m) (hi : i < m.cores.length) (hs : isMem s.op = true) : memFull m i s = (isMem s.op && !decide (s.op = 5) && within (cellOf (coreAt m i) s) 0 23 && decide ((4000 : Int) ≤ (m.mem.cells.getD (cellOf (coreAt m i) s).toNat []).length)) := by
 unfold memFull
 rw [hs, Bool.true_and]
 cases hw : within (cellOf (coreAt m i) s) 0 23
 ·simp
 ·rw [within_iff] at hw
  have := (hM.mem.cell (cellOf (coreAt m i) s).toNat (by omega)).2
  congr 1
  rw [decide_eq_decide]
  omega
set_option maxHeartbeats 16000000 in
theorem l8Step_ok (m : Machine) (i : Nat) (late : Int) (hM : MOk m) (hi : i < m.cores.length) (hst : (coreAt m i).st = 0) (hc : (mstep m ⟨i, late⟩).2 = 0) (hl : -(2 ^ 63) ≤ late ∧ late < 2 ^ 63) :
  CallOk Try.prog num 357 [mchV m, .agg (pickC ⟨i, late⟩)] (mchF m) (.tup [.agg (machineC .own (mstep m ⟨i, late⟩).1), .int .i64 0]) := by
 refine EH m357 Try.func29 (hh := mchF_hb m) ?_
 unfold m357
 have n4 := hM.n4
 have hcl := hM.cores
 have hj : i < m.codes.length := by omega
 have hK := hM.core i hi
 have e1 := hK.at0
 have e2 := hK.at1
 have e4 := hK.regs
 have e6 := hK.view
 have hso := stepAt_ok hM hi
 have hcg := qAl .own m.cores i hi
 have gt : ∀ r, ((cores .own m.cores).set i r).getD i [] = r := fun r => qA5 _ _ _ _ (by rw [qAn]; exact hi)
 have gt2 : ∀ k r, ((cores .own (m.cores.set i k)).set i r).getD i [] = r := fun k r => qA5 _ _ _ _ (by rw [qAn, List.length_set]; exact hi)
 have hdg := qB8 .own m.codes i hj
 have gd : ∀ r, ((codes .own m.codes).set i r).getD i [] = r := fun r => qA5 _ _ _ _ (by rw [qBo]; exact hj)
 have hdself : (codes .own m.codes).set i [.sl .own 5 (steps (m.codes.getD i []))] = codes .own m.codes := by rw [← hdg, qAb _ _ _ (by rw [qBo]; exact hj)]
 have hcself : (cores .own m.cores).set i [.int .i64 (coreAt m i).at_, .sl .own 1 (ints (coreAt m i).regs), .sl .own 1 (ints (coreAt m i).view), .int .i64 (coreAt m i).st] = cores .own m.cores := by rw [show coreAt m i = m.cores.getD i default from rfl, ← hcg, qAb _ _ _ (by rw [qAn]; exact hi)]
 have hsg := qB7 (m.codes.getD i []) (coreAt m i).at_.toNat (by omega)
 have hl800 : (m.codes.getD i []).length ≤ 800 := by
  have := hK.code
  unfold codeOk at this
  simp only [Bool.and_eq_true, within_iff] at this
  omega
 generalize hkk : coreAt m i = k at *
 have hkk' : m.cores.getD i default = k := hkk
 rw [hkk'] at hcg
 have hss : (m.codes.getD i []).getD k.at_.toNat default = stepAt m i := by rw [← hkk]; rfl
 rw [hss] at hsg
 generalize hstp : stepAt m i = s at *
 generalize hcd : m.codes.getD i [] = cd at *
 have hw1 : IntKind.i64.wrap (k.at_ + 1) = k.at_ + 1 := qAs (by omega) (by omega)
 obtain ⟨r0, r1, b0, b1, op1, op13, a7⟩ := stepOk_ranges hso
 have rr : s.r.toNat < k.regs.length := by omega
 have rb : s.b.toNat < k.regs.length := by omega
 simp only [go_sem, qA, qB, qC, qD, qE, qF, qG, qH, mchV, mchF, hcg, gt, gt2, hdg, gd, hsg, hw1, qA0 k.regs s.r.toNat rr, qA0 k.regs s.b.toNat rb]
 repeat refine K ?_
 by_cases h9 : s.op = 9
 ·have htr : ¬ (m.tr.length : Int) = 4000 := fun e => by
   rw [qCk (late := late) hkk hstp hi (.inl (.inr ⟨h9, e⟩))] at hc
   simp at hc
  have ra : s.a.toNat < k.regs.length := by omega
  have hst0 := qAr (late := late) hkk hstp hi hst (fun e => htr e.2) (by simp [isMem, h9])
  have hgo : mdo m i late = goOn ⟨m.codes, m.cores, m.mem, m.tr ++ [⟨i, k.regs.getD s.a.toNat 0⟩]⟩ i k (k.at_ + 1) := by
   unfold mdo
   simp [hkk, hstp, h9, isMem, rg]
  have htl : m.tr.length ≤ 4000 := by
   have := hM.tr
   unfold notesOk at this
   simp only [Bool.and_eq_true, decide_eq_true_eq] at this
   omega
  simp only [go_sem, qA, qB, qC, qD, qE, qF, qG, qH, h9, htr, hcg, gt, gt2, hdg, gd, hsg, hw1, qA0 k.regs s.r.toNat rr, qA0 k.regs s.b.toNat rb, qA0 k.regs s.a.toNat ra]
  repeat refine K ?_
  try simp only [go_sem, qA, qB, qC, qD, qE, qF, qG, qH, h9, htr, hcg, gt, gt2, hdg, gd, hsg, hw1, qA0 k.regs s.r.toNat rr, qA0 k.regs s.b.toNat rb, qA0 k.regs s.a.toNat ra]
  repeat refine K ?_
  by_cases hn : (cd.length : Int) ≤ k.at_ + 1
  ·rw [hst0, hgo, qB4 (by rw [hcd]; exact hn)]
   simp only [go_sem, qA, qB, qC, qD, qE, qF, qG, qH, hn, hcg, gt, gt2, hdg, gd, hsg, hw1, qA0 k.regs s.r.toNat rr, qA0 k.regs s.b.toNat rb, qA0 k.regs s.a.toNat ra]
   repeat refine K ?_
   apply qAj (by simp)
   ·repeat' ((first | refine FA 1 1 13 ?_ | refine FA 1 1 14 ?_ | refine FA 1 1 15 ?_ | refine FA 1 1 16 ?_ | refine FA 1 1 17 ?_ | refine FA 1 1 18 ?_ | refine FA 1 1 19 ?_ | refine FA 1 2 13 ?_ | refine FA 1 2 14 ?_ | refine FA 1 2 15 ?_ | refine FA 1 2 16 ?_ | refine FA 1 2 17 ?_ | refine FA 1 2 18 ?_ | refine FA 1 2 19 ?_ | refine FA 0 0 15 ?_ | refine FA 0 0 16 ?_ | refine FA 0 0 17 ?_ | refine FA 0 0 18 ?_ | refine FA 0 0 19 ?_ | fail); simp only [fS, fS2, fS2, qA, qC, qA1, List.set_set, hdself])
    exact Sub.refl _
   ·simp [-List.drop_one, -gD, qA4, setK, machineC, qA1, hdself, hst, qAg, qA9] <;> (first | rfl | exact ⟨rfl, rfl⟩ | exact ⟨rfl, rfl, rfl⟩ | skip)
  ·rw [hst0, hgo, qAw (by rw [hcd]; exact hn)]
   simp only [go_sem, qA, qB, qC, qD, qE, qF, qG, qH, hn, hcg, gt, gt2, hdg, gd, hsg, hw1, qA0 k.regs s.r.toNat rr, qA0 k.regs s.b.toNat rb, qA0 k.regs s.a.toNat ra]
   repeat refine K ?_
   apply qAj (by simp)
   ·repeat' ((first | refine FA 1 1 13 ?_ | refine FA 1 1 14 ?_ | refine FA 1 1 15 ?_ | refine FA 1 1 16 ?_ | refine FA 1 1 17 ?_ | refine FA 1 1 18 ?_ | refine FA 1 1 19 ?_ | refine FA 1 2 13 ?_ | refine FA 1 2 14 ?_ | refine FA 1 2 15 ?_ | refine FA 1 2 16 ?_ | refine FA 1 2 17 ?_ | refine FA 1 2 18 ?_ | refine FA 1 2 19 ?_ | refine FA 0 0 15 ?_ | refine FA 0 0 16 ?_ | refine FA 0 0 17 ?_ | refine FA 0 0 18 ?_ | refine FA 0 0 19 ?_ | fail); simp only [fS, fS2, fS2, qA, qC, qA1, List.set_set, hdself])
    exact Sub.refl _
   ·simp [-List.drop_one, -gD, qA4, setK, machineC, qA1, hdself, hst, qAg, qA9] <;> (first | rfl | exact ⟨rfl, rfl⟩ | exact ⟨rfl, rfl, rfl⟩ | skip)
 have h9' : ∀ P : Prop, ¬ (s.op = 9 ∧ P) := fun P e => h9 e.1
 by_cases h1 : s.op = 1
 ·have ra : s.a.toNat < k.regs.length := by omega
  have hst0 := qAr (late := late) hkk hstp hi hst (h9' _) (by simp [isMem, h1])
  have hgo : mdo m i late = goOn m i ⟨k.at_, k.regs.set s.r.toNat s.n, k.view, k.st⟩ (k.at_ + 1) := by
   unfold mdo
   simp [hkk, hstp, h1, isMem, alu, nextAt, setR, rg]
  simp only [go_sem, qA, qB, qC, qD, qE, qF, qG, qH, h1, hcg, gt, gt2, hdg, gd, hsg, hw1, qA0 k.regs s.r.toNat rr, qA0 k.regs s.b.toNat rb, qA0 k.regs s.a.toNat ra]
  repeat refine K ?_
  by_cases hn : (cd.length : Int) ≤ k.at_ + 1
  ·rw [hst0, hgo, qB4 (by rw [hcd]; exact hn)]
   simp only [go_sem, qA, qB, qC, qD, qE, qF, qG, qH, hn, hcg, gt, gt2, hdg, gd, hsg, hw1, qA0 k.regs s.r.toNat rr, qA0 k.regs s.b.toNat rb, qA0 k.regs s.a.toNat ra]
   repeat refine K ?_
   apply qAj (by simp)
   ·repeat' ((first | refine FA 1 1 13 ?_ | refine FA 1 1 14 ?_ | refine FA 1 1 15 ?_ | refine FA 1 1 16 ?_ | refine FA 1 1 17 ?_ | refine FA 1 1 18 ?_ | refine FA 1 1 19 ?_ | refine FA 1 2 13 ?_ | refine FA 1 2 14 ?_ | refine FA 1 2 15 ?_ | refine FA 1 2 16 ?_ | refine FA 1 2 17 ?_ | refine FA 1 2 18 ?_ | refine FA 1 2 19 ?_ | refine FA 0 0 15 ?_ | refine FA 0 0 16 ?_ | refine FA 0 0 17 ?_ | refine FA 0 0 18 ?_ | refine FA 0 0 19 ?_ | fail); simp only [fS, fS2, fS2, qA, qC, qA1, List.set_set, hdself])
    exact Sub.refl _
   ·simp [-List.drop_one, -gD, qA4, setK, machineC, qA1, hdself, hst, qAg, qA9] <;> (first | rfl | exact ⟨rfl, rfl⟩ | exact ⟨rfl, rfl, rfl⟩ | skip)
  ·rw [hst0, hgo, qAw (by rw [hcd]; exact hn)]
   simp only [go_sem, qA, qB, qC, qD, qE, qF, qG, qH, hn, hcg, gt, gt2, hdg, gd, hsg, hw1, qA0 k.regs s.r.toNat rr, qA0 k.regs s.b.toNat rb, qA0 k.regs s.a.toNat ra]
   repeat refine K ?_
   apply qAj (by simp)
   ·repeat' ((first | refine FA 1 1 13 ?_ | refine FA 1 1 14 ?_ | refine FA 1 1 15 ?_ | refine FA 1 1 16 ?_ | refine FA 1 1 17 ?_ | refine FA 1 1 18 ?_ | refine FA 1 1 19 ?_ | refine FA 1 2 13 ?_ | refine FA 1 2 14 ?_ | refine FA 1 2 15 ?_ | refine FA 1 2 16 ?_ | refine FA 1 2 17 ?_ | refine FA 1 2 18 ?_ | refine FA 1 2 19 ?_ | refine FA 0 0 15 ?_ | refine FA 0 0 16 ?_ | refine FA 0 0 17 ?_ | refine FA 0 0 18 ?_ | refine FA 0 0 19 ?_ | fail); simp only [fS, fS2, fS2, qA, qC, qA1, List.set_set, hdself])
    exact Sub.refl _
   ·simp [-List.drop_one, -gD, qA4, setK, machineC, qA1, hdself, hst, qAg, qA9] <;> (first | rfl | exact ⟨rfl, rfl⟩ | exact ⟨rfl, rfl, rfl⟩ | skip)
 by_cases h2 : s.op = 2
 ·have ra : s.a.toNat < k.regs.length := by omega
  have hst0 := qAr (late := late) hkk hstp hi hst (h9' _) (by simp [isMem, h2])
  have hgo : mdo m i late = goOn m i ⟨k.at_, k.regs.set s.r.toNat (IntKind.i64.wrap (k.regs.getD s.a.toNat 0 + k.regs.getD s.b.toNat 0)), k.view, k.st⟩ (k.at_ + 1) := by
   unfold mdo
   simp [hkk, hstp, h2, isMem, alu, nextAt, setR, rg]
  simp only [go_sem, qA, qB, qC, qD, qE, qF, qG, qH, h2, hcg, gt, gt2, hdg, gd, hsg, hw1, qA0 k.regs s.r.toNat rr, qA0 k.regs s.b.toNat rb, qA0 k.regs s.a.toNat ra]
  repeat refine K ?_
  by_cases hn : (cd.length : Int) ≤ k.at_ + 1
  ·rw [hst0, hgo, qB4 (by rw [hcd]; exact hn)]
   simp only [go_sem, qA, qB, qC, qD, qE, qF, qG, qH, hn, hcg, gt, gt2, hdg, gd, hsg, hw1, qA0 k.regs s.r.toNat rr, qA0 k.regs s.b.toNat rb, qA0 k.regs s.a.toNat ra]
   repeat refine K ?_
   apply qAj (by simp)
   ·repeat' ((first | refine FA 1 1 13 ?_ | refine FA 1 1 14 ?_ | refine FA 1 1 15 ?_ | refine FA 1 1 16 ?_ | refine FA 1 1 17 ?_ | refine FA 1 1 18 ?_ | refine FA 1 1 19 ?_ | refine FA 1 2 13 ?_ | refine FA 1 2 14 ?_ | refine FA 1 2 15 ?_ | refine FA 1 2 16 ?_ | refine FA 1 2 17 ?_ | refine FA 1 2 18 ?_ | refine FA 1 2 19 ?_ | refine FA 0 0 15 ?_ | refine FA 0 0 16 ?_ | refine FA 0 0 17 ?_ | refine FA 0 0 18 ?_ | refine FA 0 0 19 ?_ | fail); simp only [fS, fS2, fS2, qA, qC, qA1, List.set_set, hdself])
    exact Sub.refl _
   ·simp [-List.drop_one, -gD, qA4, setK, machineC, qA1, hdself, hst, qAg, qA9] <;> (first | rfl | exact ⟨rfl, rfl⟩ | exact ⟨rfl, rfl, rfl⟩ | skip)
  ·rw [hst0, hgo, qAw (by rw [hcd]; exact hn)]
   simp only [go_sem, qA, qB, qC, qD, qE, qF, qG, qH, hn, hcg, gt, gt2, hdg, gd, hsg, hw1, qA0 k.regs s.r.toNat rr, qA0 k.regs s.b.toNat rb, qA0 k.regs s.a.toNat ra]
   repeat refine K ?_
   apply qAj (by simp)
   ·repeat' ((first | refine FA 1 1 13 ?_ | refine FA 1 1 14 ?_ | refine FA 1 1 15 ?_ | refine FA 1 1 16 ?_ | refine FA 1 1 17 ?_ | refine FA 1 1 18 ?_ | refine FA 1 1 19 ?_ | refine FA 1 2 13 ?_ | refine FA 1 2 14 ?_ | refine FA 1 2 15 ?_ | refine FA 1 2 16 ?_ | refine FA 1 2 17 ?_ | refine FA 1 2 18 ?_ | refine FA 1 2 19 ?_ | refine FA 0 0 15 ?_ | refine FA 0 0 16 ?_ | refine FA 0 0 17 ?_ | refine FA 0 0 18 ?_ | refine FA 0 0 19 ?_ | fail); simp only [fS, fS2, fS2, qA, qC, qA1, List.set_set, hdself])
    exact Sub.refl _
   ·simp [-List.drop_one, -gD, qA4, setK, machineC, qA1, hdself, hst, qAg, qA9] <;> (first | rfl | exact ⟨rfl, rfl⟩ | exact ⟨rfl, rfl, rfl⟩ | skip)
 by_cases h3 : s.op = 3
 ·have ra : s.a.toNat < k.regs.length := by omega
  have hst0 := qAr (late := late) hkk hstp hi hst (h9' _) (by simp [isMem, h3])
  have hgo : mdo m i late = goOn m i ⟨k.at_, k.regs.set s.r.toNat (IntKind.i64.wrap (k.regs.getD s.a.toNat 0 - k.regs.getD s.b.toNat 0)), k.view, k.st⟩ (k.at_ + 1) := by
   unfold mdo
   simp [hkk, hstp, h3, isMem, alu, nextAt, setR, rg]
  simp only [go_sem, qA, qB, qC, qD, qE, qF, qG, qH, h3, hcg, gt, gt2, hdg, gd, hsg, hw1, qA0 k.regs s.r.toNat rr, qA0 k.regs s.b.toNat rb, qA0 k.regs s.a.toNat ra]
  repeat refine K ?_
  by_cases hn : (cd.length : Int) ≤ k.at_ + 1
  ·rw [hst0, hgo, qB4 (by rw [hcd]; exact hn)]
   simp only [go_sem, qA, qB, qC, qD, qE, qF, qG, qH, hn, hcg, gt, gt2, hdg, gd, hsg, hw1, qA0 k.regs s.r.toNat rr, qA0 k.regs s.b.toNat rb, qA0 k.regs s.a.toNat ra]
   repeat refine K ?_
   apply qAj (by simp)
   ·repeat' ((first | refine FA 1 1 13 ?_ | refine FA 1 1 14 ?_ | refine FA 1 1 15 ?_ | refine FA 1 1 16 ?_ | refine FA 1 1 17 ?_ | refine FA 1 1 18 ?_ | refine FA 1 1 19 ?_ | refine FA 1 2 13 ?_ | refine FA 1 2 14 ?_ | refine FA 1 2 15 ?_ | refine FA 1 2 16 ?_ | refine FA 1 2 17 ?_ | refine FA 1 2 18 ?_ | refine FA 1 2 19 ?_ | refine FA 0 0 15 ?_ | refine FA 0 0 16 ?_ | refine FA 0 0 17 ?_ | refine FA 0 0 18 ?_ | refine FA 0 0 19 ?_ | fail); simp only [fS, fS2, fS2, qA, qC, qA1, List.set_set, hdself])
    exact Sub.refl _
   ·simp [-List.drop_one, -gD, qA4, setK, machineC, qA1, hdself, hst, qAg, qA9] <;> (first | rfl | exact ⟨rfl, rfl⟩ | exact ⟨rfl, rfl, rfl⟩ | skip)
  ·rw [hst0, hgo, qAw (by rw [hcd]; exact hn)]
   simp only [go_sem, qA, qB, qC, qD, qE, qF, qG, qH, hn, hcg, gt, gt2, hdg, gd, hsg, hw1, qA0 k.regs s.r.toNat rr, qA0 k.regs s.b.toNat rb, qA0 k.regs s.a.toNat ra]
   repeat refine K ?_
   apply qAj (by simp)
   ·repeat' ((first | refine FA 1 1 13 ?_ | refine FA 1 1 14 ?_ | refine FA 1 1 15 ?_ | refine FA 1 1 16 ?_ | refine FA 1 1 17 ?_ | refine FA 1 1 18 ?_ | refine FA 1 1 19 ?_ | refine FA 1 2 13 ?_ | refine FA 1 2 14 ?_ | refine FA 1 2 15 ?_ | refine FA 1 2 16 ?_ | refine FA 1 2 17 ?_ | refine FA 1 2 18 ?_ | refine FA 1 2 19 ?_ | refine FA 0 0 15 ?_ | refine FA 0 0 16 ?_ | refine FA 0 0 17 ?_ | refine FA 0 0 18 ?_ | refine FA 0 0 19 ?_ | fail); simp only [fS, fS2, fS2, qA, qC, qA1, List.set_set, hdself])
    exact Sub.refl _
   ·simp [-List.drop_one, -gD, qA4, setK, machineC, qA1, hdself, hst, qAg, qA9] <;> (first | rfl | exact ⟨rfl, rfl⟩ | exact ⟨rfl, rfl, rfl⟩ | skip)
 by_cases h4 : s.op = 4
 ·have ra : s.a.toNat < k.regs.length := by omega
  have hst0 := qAr (late := late) hkk hstp hi hst (h9' _) (by simp [isMem, h4])
  have hgo : mdo m i late = goOn m i ⟨k.at_, k.regs.set s.r.toNat (numb (decide (k.regs.getD s.a.toNat 0 < k.regs.getD s.b.toNat 0))), k.view, k.st⟩ (k.at_ + 1) := by
   unfold mdo
   simp [hkk, hstp, h4, isMem, alu, nextAt, setR, rg]
  simp only [go_sem, qA, qB, qC, qD, qE, qF, qG, qH, h4, hcg, gt, gt2, hdg, gd, hsg, hw1, qA0 k.regs s.r.toNat rr, qA0 k.regs s.b.toNat rb, qA0 k.regs s.a.toNat ra]
  repeat refine K ?_
  refine DA [] (l4Bit_ok (decide (k.regs.getD s.a.toNat 0 < k.regs.getD s.b.toNat 0))) ?_
  try simp only [go_sem, qA, qB, qC, qD, qE, qF, qG, qH]
  repeat refine K ?_
  try simp only [go_sem, qA, qB, qC, qD, qE, qF, qG, qH, h4, hcg, gt, gt2, hdg, gd, hsg, hw1, qA0 k.regs s.r.toNat rr, qA0 k.regs s.b.toNat rb, qA0 k.regs s.a.toNat ra]
  repeat refine K ?_
  by_cases hn : (cd.length : Int) ≤ k.at_ + 1
  ·rw [hst0, hgo, qB4 (by rw [hcd]; exact hn)]
   simp only [go_sem, qA, qB, qC, qD, qE, qF, qG, qH, hn, hcg, gt, gt2, hdg, gd, hsg, hw1, qA0 k.regs s.r.toNat rr, qA0 k.regs s.b.toNat rb, qA0 k.regs s.a.toNat ra]
   repeat refine K ?_
   apply qAj (by simp)
   ·repeat' ((first | refine FA 1 1 13 ?_ | refine FA 1 1 14 ?_ | refine FA 1 1 15 ?_ | refine FA 1 1 16 ?_ | refine FA 1 1 17 ?_ | refine FA 1 1 18 ?_ | refine FA 1 1 19 ?_ | refine FA 1 2 13 ?_ | refine FA 1 2 14 ?_ | refine FA 1 2 15 ?_ | refine FA 1 2 16 ?_ | refine FA 1 2 17 ?_ | refine FA 1 2 18 ?_ | refine FA 1 2 19 ?_ | refine FA 0 0 15 ?_ | refine FA 0 0 16 ?_ | refine FA 0 0 17 ?_ | refine FA 0 0 18 ?_ | refine FA 0 0 19 ?_ | fail); simp only [fS, fS2, fS2, qA, qC, qA1, List.set_set, hdself])
    exact Sub.refl _
   ·simp [-List.drop_one, -gD, qA4, setK, machineC, qA1, hdself, hst, qAg, qA9] <;> (first | rfl | exact ⟨rfl, rfl⟩ | exact ⟨rfl, rfl, rfl⟩ | skip)
  ·rw [hst0, hgo, qAw (by rw [hcd]; exact hn)]
   simp only [go_sem, qA, qB, qC, qD, qE, qF, qG, qH, hn, hcg, gt, gt2, hdg, gd, hsg, hw1, qA0 k.regs s.r.toNat rr, qA0 k.regs s.b.toNat rb, qA0 k.regs s.a.toNat ra]
   repeat refine K ?_
   apply qAj (by simp)
   ·repeat' ((first | refine FA 1 1 13 ?_ | refine FA 1 1 14 ?_ | refine FA 1 1 15 ?_ | refine FA 1 1 16 ?_ | refine FA 1 1 17 ?_ | refine FA 1 1 18 ?_ | refine FA 1 1 19 ?_ | refine FA 1 2 13 ?_ | refine FA 1 2 14 ?_ | refine FA 1 2 15 ?_ | refine FA 1 2 16 ?_ | refine FA 1 2 17 ?_ | refine FA 1 2 18 ?_ | refine FA 1 2 19 ?_ | refine FA 0 0 15 ?_ | refine FA 0 0 16 ?_ | refine FA 0 0 17 ?_ | refine FA 0 0 18 ?_ | refine FA 0 0 19 ?_ | fail); simp only [fS, fS2, fS2, qA, qC, qA1, List.set_set, hdself])
    exact Sub.refl _
   ·simp [-List.drop_one, -gD, qA4, setK, machineC, qA1, hdself, hst, qAg, qA9] <;> (first | rfl | exact ⟨rfl, rfl⟩ | exact ⟨rfl, rfl, rfl⟩ | skip)
 by_cases h10 : s.op = 10
 ·have hst0 := qAr (late := late) hkk hstp hi hst (h9' _) (by simp [isMem, h10])
  have hgo : mdo m i late = goOn m i k s.n := by
   unfold mdo
   simp [hkk, hstp, h10, isMem, alu, nextAt]
  simp only [go_sem, qA, qB, qC, qD, qE, qF, qG, qH, h10, h9, hcg, gt, gt2, hdg, gd, hsg, hw1, qA0 k.regs s.r.toNat rr, qA0 k.regs s.b.toNat rb]
  repeat refine K ?_
  by_cases hn : (cd.length : Int) ≤ s.n
  ·rw [hst0, hgo, qB4 (by rw [hcd]; exact hn)]
   simp only [go_sem, qA, qB, qC, qD, qE, qF, qG, qH, hn, hcg, gt, gt2, hdg, gd, hsg, hw1, qA0 k.regs s.r.toNat rr, qA0 k.regs s.b.toNat rb]
   repeat refine K ?_
   apply qAj (by simp)
   ·repeat' ((first | refine FA 1 1 13 ?_ | refine FA 1 1 14 ?_ | refine FA 1 1 15 ?_ | refine FA 1 1 16 ?_ | refine FA 1 1 17 ?_ | refine FA 1 1 18 ?_ | refine FA 1 1 19 ?_ | refine FA 1 2 13 ?_ | refine FA 1 2 14 ?_ | refine FA 1 2 15 ?_ | refine FA 1 2 16 ?_ | refine FA 1 2 17 ?_ | refine FA 1 2 18 ?_ | refine FA 1 2 19 ?_ | refine FA 0 0 15 ?_ | refine FA 0 0 16 ?_ | refine FA 0 0 17 ?_ | refine FA 0 0 18 ?_ | refine FA 0 0 19 ?_ | fail); simp only [fS, fS2, fS2, qA, qC, qA1, List.set_set, hdself])
    exact Sub.refl _
   ·simp [-List.drop_one, -gD, qA4, setK, machineC, qA1, hdself, hst, qAg, qA9] <;> (first | rfl | exact ⟨rfl, rfl⟩ | exact ⟨rfl, rfl, rfl⟩ | skip)
  ·rw [hst0, hgo, qAw (by rw [hcd]; exact hn)]
   simp only [go_sem, qA, qB, qC, qD, qE, qF, qG, qH, hn, hcg, gt, gt2, hdg, gd, hsg, hw1, qA0 k.regs s.r.toNat rr, qA0 k.regs s.b.toNat rb]
   repeat refine K ?_
   apply qAj (by simp)
   ·repeat' ((first | refine FA 1 1 13 ?_ | refine FA 1 1 14 ?_ | refine FA 1 1 15 ?_ | refine FA 1 1 16 ?_ | refine FA 1 1 17 ?_ | refine FA 1 1 18 ?_ | refine FA 1 1 19 ?_ | refine FA 1 2 13 ?_ | refine FA 1 2 14 ?_ | refine FA 1 2 15 ?_ | refine FA 1 2 16 ?_ | refine FA 1 2 17 ?_ | refine FA 1 2 18 ?_ | refine FA 1 2 19 ?_ | refine FA 0 0 15 ?_ | refine FA 0 0 16 ?_ | refine FA 0 0 17 ?_ | refine FA 0 0 18 ?_ | refine FA 0 0 19 ?_ | fail); simp only [fS, fS2, fS2, qA, qC, qA1, List.set_set, hdself])
    exact Sub.refl _
   ·simp [-List.drop_one, -gD, qA4, setK, machineC, qA1, hdself, hst, qAg, qA9] <;> (first | rfl | exact ⟨rfl, rfl⟩ | exact ⟨rfl, rfl, rfl⟩ | skip)
 by_cases h11 : s.op = 11
 ·have ra : s.a.toNat < k.regs.length := by omega
  have hst0 := qAr (late := late) hkk hstp hi hst (h9' _) (by simp [isMem, h11])
  simp only [go_sem, qA, qB, qC, qD, qE, qF, qG, qH, h11, h9, hcg, gt, gt2, hdg, gd, hsg, hw1, qA0 k.regs s.r.toNat rr, qA0 k.regs s.b.toNat rb, qA0 k.regs s.a.toNat ra]
  repeat refine K ?_
  by_cases hz : k.regs.getD s.a.toNat 0 = 0
  ·have hgo : mdo m i late = goOn m i k s.n := by
    unfold mdo
    rw [hkk, hstp]
    simp only [h11, isMem, alu, nextAt, rg, hz]
    simp
   try simp only [go_sem, qA, qB, qC, qD, qE, qF, qG, qH, h11, hz, hcg, gt, gt2, hdg, gd, hsg, hw1, qA0 k.regs s.r.toNat rr, qA0 k.regs s.b.toNat rb, qA0 k.regs s.a.toNat ra]
   repeat refine K ?_
   by_cases hn : (cd.length : Int) ≤ s.n
   ·rw [hst0, hgo, qB4 (by rw [hcd]; exact hn)]
    simp only [go_sem, qA, qB, qC, qD, qE, qF, qG, qH, hn, hcg, gt, gt2, hdg, gd, hsg, hw1, qA0 k.regs s.r.toNat rr, qA0 k.regs s.b.toNat rb, qA0 k.regs s.a.toNat ra]
    repeat refine K ?_
    apply qAj (by simp)
    ·repeat' ((first | refine FA 1 1 13 ?_ | refine FA 1 1 14 ?_ | refine FA 1 1 15 ?_ | refine FA 1 1 16 ?_ | refine FA 1 1 17 ?_ | refine FA 1 1 18 ?_ | refine FA 1 1 19 ?_ | refine FA 1 2 13 ?_ | refine FA 1 2 14 ?_ | refine FA 1 2 15 ?_ | refine FA 1 2 16 ?_ | refine FA 1 2 17 ?_ | refine FA 1 2 18 ?_ | refine FA 1 2 19 ?_ | refine FA 0 0 15 ?_ | refine FA 0 0 16 ?_ | refine FA 0 0 17 ?_ | refine FA 0 0 18 ?_ | refine FA 0 0 19 ?_ | fail); simp only [fS, fS2, fS2, qA, qC, qA1, List.set_set, hdself])
     exact Sub.refl _
    ·simp [-List.drop_one, -gD, qA4, setK, machineC, qA1, hdself, hst, qAg, qA9] <;> (first | rfl | exact ⟨rfl, rfl⟩ | exact ⟨rfl, rfl, rfl⟩ | skip)
   ·rw [hst0, hgo, qAw (by rw [hcd]; exact hn)]
    simp only [go_sem, qA, qB, qC, qD, qE, qF, qG, qH, hn, hcg, gt, gt2, hdg, gd, hsg, hw1, qA0 k.regs s.r.toNat rr, qA0 k.regs s.b.toNat rb, qA0 k.regs s.a.toNat ra]
    repeat refine K ?_
    apply qAj (by simp)
    ·repeat' ((first | refine FA 1 1 13 ?_ | refine FA 1 1 14 ?_ | refine FA 1 1 15 ?_ | refine FA 1 1 16 ?_ | refine FA 1 1 17 ?_ | refine FA 1 1 18 ?_ | refine FA 1 1 19 ?_ | refine FA 1 2 13 ?_ | refine FA 1 2 14 ?_ | refine FA 1 2 15 ?_ | refine FA 1 2 16 ?_ | refine FA 1 2 17 ?_ | refine FA 1 2 18 ?_ | refine FA 1 2 19 ?_ | refine FA 0 0 15 ?_ | refine FA 0 0 16 ?_ | refine FA 0 0 17 ?_ | refine FA 0 0 18 ?_ | refine FA 0 0 19 ?_ | fail); simp only [fS, fS2, fS2, qA, qC, qA1, List.set_set, hdself])
     exact Sub.refl _
    ·simp [-List.drop_one, -gD, qA4, setK, machineC, qA1, hdself, hst, qAg, qA9] <;> (first | rfl | exact ⟨rfl, rfl⟩ | exact ⟨rfl, rfl, rfl⟩ | skip)
  ·have hgo : mdo m i late = goOn m i k (k.at_ + 1) := by
    unfold mdo
    rw [hkk, hstp]
    simp only [h11, isMem, alu, nextAt, rg, hz]
    simp
   try simp only [go_sem, qA, qB, qC, qD, qE, qF, qG, qH, h11, hz, hcg, gt, gt2, hdg, gd, hsg, hw1, qA0 k.regs s.r.toNat rr, qA0 k.regs s.b.toNat rb, qA0 k.regs s.a.toNat ra]
   repeat refine K ?_
   by_cases hn : (cd.length : Int) ≤ k.at_ + 1
   ·rw [hst0, hgo, qB4 (by rw [hcd]; exact hn)]
    simp only [go_sem, qA, qB, qC, qD, qE, qF, qG, qH, hn, hcg, gt, gt2, hdg, gd, hsg, hw1, qA0 k.regs s.r.toNat rr, qA0 k.regs s.b.toNat rb, qA0 k.regs s.a.toNat ra]
    repeat refine K ?_
    apply qAj (by simp)
    ·repeat' ((first | refine FA 1 1 13 ?_ | refine FA 1 1 14 ?_ | refine FA 1 1 15 ?_ | refine FA 1 1 16 ?_ | refine FA 1 1 17 ?_ | refine FA 1 1 18 ?_ | refine FA 1 1 19 ?_ | refine FA 1 2 13 ?_ | refine FA 1 2 14 ?_ | refine FA 1 2 15 ?_ | refine FA 1 2 16 ?_ | refine FA 1 2 17 ?_ | refine FA 1 2 18 ?_ | refine FA 1 2 19 ?_ | refine FA 0 0 15 ?_ | refine FA 0 0 16 ?_ | refine FA 0 0 17 ?_ | refine FA 0 0 18 ?_ | refine FA 0 0 19 ?_ | fail); simp only [fS, fS2, fS2, qA, qC, qA1, List.set_set, hdself])
     exact Sub.refl _
    ·simp [-List.drop_one, -gD, qA4, setK, machineC, qA1, hdself, hst, qAg, qA9] <;> (first | rfl | exact ⟨rfl, rfl⟩ | exact ⟨rfl, rfl, rfl⟩ | skip)
   ·rw [hst0, hgo, qAw (by rw [hcd]; exact hn)]
    simp only [go_sem, qA, qB, qC, qD, qE, qF, qG, qH, hn, hcg, gt, gt2, hdg, gd, hsg, hw1, qA0 k.regs s.r.toNat rr, qA0 k.regs s.b.toNat rb, qA0 k.regs s.a.toNat ra]
    repeat refine K ?_
    apply qAj (by simp)
    ·repeat' ((first | refine FA 1 1 13 ?_ | refine FA 1 1 14 ?_ | refine FA 1 1 15 ?_ | refine FA 1 1 16 ?_ | refine FA 1 1 17 ?_ | refine FA 1 1 18 ?_ | refine FA 1 1 19 ?_ | refine FA 1 2 13 ?_ | refine FA 1 2 14 ?_ | refine FA 1 2 15 ?_ | refine FA 1 2 16 ?_ | refine FA 1 2 17 ?_ | refine FA 1 2 18 ?_ | refine FA 1 2 19 ?_ | refine FA 0 0 15 ?_ | refine FA 0 0 16 ?_ | refine FA 0 0 17 ?_ | refine FA 0 0 18 ?_ | refine FA 0 0 19 ?_ | fail); simp only [fS, fS2, fS2, qA, qC, qA1, List.set_set, hdself])
     exact Sub.refl _
    ·simp [-List.drop_one, -gD, qA4, setK, machineC, qA1, hdself, hst, qAg, qA9] <;> (first | rfl | exact ⟨rfl, rfl⟩ | exact ⟨rfl, rfl, rfl⟩ | skip)
 by_cases h12 : s.op = 12
 ·have hst0 := qAr (late := late) hkk hstp hi hst (h9' _) (by simp [isMem, h12])
  have hgo : mdo m i late = setK m i ⟨k.at_, k.regs, k.view, 1⟩ := by
   unfold mdo
   simp [hkk, hstp, h12, stop]
  rw [hst0, hgo]
  simp only [go_sem, qA, qB, qC, qD, qE, qF, qG, qH, h12, h9, hcg, gt, gt2, hdg, gd, hsg, hw1, qA0 k.regs s.r.toNat rr, qA0 k.regs s.b.toNat rb]
  repeat refine K ?_
  apply qAj (by simp)
  ·repeat' ((first | refine FA 1 1 13 ?_ | refine FA 1 1 14 ?_ | refine FA 1 1 15 ?_ | refine FA 1 1 16 ?_ | refine FA 1 1 17 ?_ | refine FA 1 1 18 ?_ | refine FA 1 1 19 ?_ | refine FA 1 2 13 ?_ | refine FA 1 2 14 ?_ | refine FA 1 2 15 ?_ | refine FA 1 2 16 ?_ | refine FA 1 2 17 ?_ | refine FA 1 2 18 ?_ | refine FA 1 2 19 ?_ | refine FA 0 0 15 ?_ | refine FA 0 0 16 ?_ | refine FA 0 0 17 ?_ | refine FA 0 0 18 ?_ | refine FA 0 0 19 ?_ | fail); simp only [fS, fS2, fS2, qA, qC, qA1, List.set_set, hdself])
   exact Sub.refl _
  ·simp [-List.drop_one, -gD, qA4, setK, machineC, qA1, hdself, hst, hgo] <;> (first | rfl | exact ⟨rfl, rfl⟩ | exact ⟨rfl, rfl, rfl⟩ | skip)
 by_cases h13 : s.op = 13
 ·have hst0 := qAr (late := late) hkk hstp hi hst (h9' _) (by simp [isMem, h13])
  have hgo : mdo m i late = setK m i ⟨k.at_, k.regs, k.view, 2⟩ := by
   unfold mdo
   simp [hkk, hstp, h13, stop]
  rw [hst0, hgo]
  simp only [go_sem, qA, qB, qC, qD, qE, qF, qG, qH, h13, h9, hcg, gt, gt2, hdg, gd, hsg, hw1, qA0 k.regs s.r.toNat rr, qA0 k.regs s.b.toNat rb]
  repeat refine K ?_
  apply qAj (by simp)
  ·repeat' ((first | refine FA 1 1 13 ?_ | refine FA 1 1 14 ?_ | refine FA 1 1 15 ?_ | refine FA 1 1 16 ?_ | refine FA 1 1 17 ?_ | refine FA 1 1 18 ?_ | refine FA 1 1 19 ?_ | refine FA 1 2 13 ?_ | refine FA 1 2 14 ?_ | refine FA 1 2 15 ?_ | refine FA 1 2 16 ?_ | refine FA 1 2 17 ?_ | refine FA 1 2 18 ?_ | refine FA 1 2 19 ?_ | refine FA 0 0 15 ?_ | refine FA 0 0 16 ?_ | refine FA 0 0 17 ?_ | refine FA 0 0 18 ?_ | refine FA 0 0 19 ?_ | fail); simp only [fS, fS2, fS2, qA, qC, qA1, List.set_set, hdself])
   exact Sub.refl _
  ·simp [-List.drop_one, -gD, qA4, setK, machineC, qA1, hdself, hst, hgo] <;> (first | rfl | exact ⟨rfl, rfl⟩ | exact ⟨rfl, rfl, rfl⟩ | skip)
 have hop : s.op = 5 ∨ s.op = 6 ∨ s.op = 7 ∨ s.op = 8 := by omega
 have hmm : isMem s.op = true := by rcases hop with h | h | h | h <;> simp [isMem, h]
 have hmf := memFull_eq hM hi hmm
 rw [hkk] at hmf
 have hnf : memFull m i s = false := by
  rw [hmf]
  cases hq : (isMem s.op && !decide (s.op = 5) && within (cellOf k s) 0 23 && decide ((4000 : Int) ≤ (m.mem.cells.getD (cellOf k s).toNat []).length)) with
  | false => rfl
  | true =>
   rw [qCk (late := late) hkk hstp hi (.inr hq)] at hc
   simp at hc
 have hst0 := qAr (late := late) hkk hstp hi hst (h9' _) (by rw [← hmf]; exact hnf)
 have hmd := l8Memory_ok m i late s hM.mem hi (by rw [hkk]; exact e4) (by rw [hkk]; exact e6) hl r0 r1 b0 b1 (by omega) hop hnf
 have hself : m.cores.set i ⟨k.at_, k.regs, k.view, k.st⟩ = m.cores := by rw [← hkk']; exact qAb _ _ _ hi
 simp only [go_sem, qA, qB, qC, qD, qE, qF, qG, qH, h1, h2, h3, h4, h9, h10, h11, h12, h13, hcg, gt, gt2, hdg, gd, hsg, hw1, qA0 k.regs s.r.toNat rr, qA0 k.regs s.b.toNat rb]
 repeat refine K ?_
 apply qCr
 ·refine FA 1 1 13 ?_
  simp only [fS, fS2, fS2, qA, qC, qA1, List.set_set]
  refine FA 1 2 14 ?_
  simp only [fS, fS2, fS2, qA, qC, hcself, qA1, List.set_set]
  refine FA 0 0 16 ?_
  simp only [fS, fS2, fS2, qA, qC, hdself]
  exact Sub.refl _
 refine CA [(0, 0), (1, 1), (2, 2), (3, 3)] (hmd) ?_
 try simp only [go_sem, qA, qB, qC, qD, qE, qF, qG, qH]
 repeat refine K ?_
 cases hin : within (cellOf k s) 0 23
 ·have hmo : memDo m i s late = (m, false) := by
   unfold memDo
   rw [hkk, hin]
   rfl
  have hgo : mdo m i late = setK m i ⟨k.at_, k.regs, k.view, 2⟩ := by
   unfold mdo
   rw [hkk, hstp]
   simp only [h12, h13, hmm, hin, if_true, if_false, stop, hkk]
   simp
  rw [hmo, hst0, hgo]
  try simp only [go_sem, qA, qB, qC, qD, qE, qF, qG, qH, hin, hcg, gt, gt2, hdg, gd, hsg, hw1, qA0 k.regs s.r.toNat rr, qA0 k.regs s.b.toNat rb]
  repeat refine K ?_
  apply qAj (by simp)
  ·repeat' ((first | refine FA 19 1 20 ?_ | refine FA 19 1 21 ?_ | refine FA 19 1 22 ?_ | refine FA 19 1 23 ?_ | refine FA 19 1 24 ?_ | refine FA 19 1 25 ?_ | fail); simp only [fS, fS2, fS2, qA, qC, qA1, List.set_set, hdself, hself])
   exact Sub.refl _
  ·simp [-List.drop_one, -gD, qA4, setK, machineC, qA1, hdself, hst, hgo] <;> (first | rfl | exact ⟨rfl, rfl⟩ | exact ⟨rfl, rfl, rfl⟩ | skip)
 obtain ⟨c, hcc⟩ := Int.eq_ofNat_of_zero_le (within_iff.1 hin).1
 have hgo : mdo m i late = goOn ⟨m.codes, m.cores, ⟨(access m.mem.cells k s c late).1⟩, m.tr⟩ i (access m.mem.cells k s c late).2 (k.at_ + 1) := by
  unfold mdo
  rw [hkk, hstp]
  rw [hcc] at hin
  simp only [h12, h13, hmm, hcc, hin, if_true, if_false, Int.toNat_natCast]
 have hmo : memDo m i s late = (⟨m.codes, m.cores.set i (access m.mem.cells k s c late).2, ⟨(access m.mem.cells k s c late).1⟩, m.tr⟩, true) := by
  unfold memDo
  rw [hkk, hin, hcc]
  rfl
 rw [hmo]
 generalize hacc : access m.mem.cells k s c late = r at *
 have hcg2 := qAl .own (m.cores.set i r.2) i (by rw [List.length_set]; exact hi)
 rw [qA5 _ _ _ _ hi] at hcg2
 try simp only [go_sem, qA, qB, qC, qD, qE, qF, qG, qH, hcg2, hcg, gt, gt2, hdg, gd, hsg, hw1, qA0 k.regs s.r.toNat rr, qA0 k.regs s.b.toNat rb]
 repeat refine K ?_
 by_cases hn : (cd.length : Int) ≤ k.at_ + 1
 ·rw [hst0, hgo, qB4 (m := ⟨m.codes, m.cores, ⟨r.1⟩, m.tr⟩) (show _ by simp only [hcd]; exact hn)]
  simp only [go_sem, qA, qB, qC, qD, qE, qF, qG, qH, hn, hcg2, hcg, gt, gt2, hdg, gd, hsg, hw1, qA0 k.regs s.r.toNat rr, qA0 k.regs s.b.toNat rb]
  repeat refine K ?_
  apply qAj (by simp)
  ·repeat' ((first | refine FA 18 0 22 ?_ | refine FA 18 0 23 ?_ | refine FA 18 0 24 ?_ | refine FA 18 0 25 ?_ | fail); simp only [fS, fS2, fS2, qA, qC, qA1, List.set_set, hdself])
   exact Sub.refl _
  ·simp [-List.drop_one, -gD, qA4, setK, machineC, qA1, hdself, hst, qAg, qA9, List.set_set] <;> (first | rfl | exact ⟨rfl, rfl⟩ | exact ⟨rfl, rfl, rfl⟩ | skip)
 ·rw [hst0, hgo, qAw (m := ⟨m.codes, m.cores, ⟨r.1⟩, m.tr⟩) (show _ by simp only [hcd]; exact hn)]
  simp only [go_sem, qA, qB, qC, qD, qE, qF, qG, qH, hn, hcg2, hcg, gt, gt2, hdg, gd, hsg, hw1, qA0 k.regs s.r.toNat rr, qA0 k.regs s.b.toNat rb]
  repeat refine K ?_
  apply qAj (by simp)
  ·repeat' ((first | refine FA 18 0 22 ?_ | refine FA 18 0 23 ?_ | refine FA 18 0 24 ?_ | refine FA 18 0 25 ?_ | fail); simp only [fS, fS2, fS2, qA, qC, qA1, List.set_set, hdself])
   exact Sub.refl _
  ·simp [-List.drop_one, -gD, qA4, setK, machineC, qA1, hdself, hst, qAg, qA9, List.set_set] <;> (first | rfl | exact ⟨rfl, rfl⟩ | exact ⟨rfl, rfl, rfl⟩ | skip)
set_option maxHeartbeats 8000000 in
theorem l8StepB_ok (m : Machine) (i : Nat) (late : Int) (hM : MOk m) (hi : i < m.cores.length) (hst : (coreAt m i).st = 0) (hc : (mstep m ⟨i, late⟩).2 ≠ 0) (hl : -(2 ^ 63) ≤ late ∧ late < 2 ^ 63) :
  CallOk Try.prog num 357 [mchV m, .agg (pickC ⟨i, late⟩)] (mchK m) (.tup [mchV m, .int .i64 3]) := by
 refine enterK (m := m357) (f := 357) (fn := Try.f29) Try.func29 (by kernel_rfl) rfl c357 rfl (by simp [Try.f29]) (by simp [bnds, bnd, nf_sl, nf_int, nf_bool, nf_str, qAh]) (mchK_hb m) ?_
 unfold m357
 have n4 := hM.n4
 have hcl := hM.cores
 have hj : i < m.codes.length := by omega
 have hK := hM.core i hi
 have e1 := hK.at0
 have e2 := hK.at1
 have e4 := hK.regs
 have e6 := hK.view
 have hso := stepAt_ok hM hi
 have hcg := qAl .own m.cores i hi
 have gt : ∀ r, ((cores .own m.cores).set i r).getD i [] = r := fun r => qA5 _ _ _ _ (by rw [qAn]; exact hi)
 have gt2 : ∀ k r, ((cores .own (m.cores.set i k)).set i r).getD i [] = r := fun k r => qA5 _ _ _ _ (by rw [qAn, List.length_set]; exact hi)
 have hdg := qB8 .own m.codes i hj
 have gd : ∀ r, ((codes .own m.codes).set i r).getD i [] = r := fun r => qA5 _ _ _ _ (by rw [qBo]; exact hj)
 have hdself : (codes .own m.codes).set i [.sl .own 5 (steps (m.codes.getD i []))] = codes .own m.codes := by rw [← hdg, qAb _ _ _ (by rw [qBo]; exact hj)]
 have hcself : (cores .own m.cores).set i [.int .i64 (coreAt m i).at_, .sl .own 1 (ints (coreAt m i).regs), .sl .own 1 (ints (coreAt m i).view), .int .i64 (coreAt m i).st] = cores .own m.cores := by rw [show coreAt m i = m.cores.getD i default from rfl, ← hcg, qAb _ _ _ (by rw [qAn]; exact hi)]
 have hsg := qB7 (m.codes.getD i []) (coreAt m i).at_.toNat (by omega)
 have hl800 : (m.codes.getD i []).length ≤ 800 := by
  have := hK.code
  unfold codeOk at this
  simp only [Bool.and_eq_true, within_iff] at this
  omega
 generalize hkk : coreAt m i = k at *
 have hkk' : m.cores.getD i default = k := hkk
 rw [hkk'] at hcg
 have hss : (m.codes.getD i []).getD k.at_.toNat default = stepAt m i := by rw [← hkk]; rfl
 rw [hss] at hsg
 generalize hstp : stepAt m i = s at *
 generalize hcd : m.codes.getD i [] = cd at *
 have hw1 : IntKind.i64.wrap (k.at_ + 1) = k.at_ + 1 := qAs (by omega) (by omega)
 obtain ⟨r0, r1, b0, b1, op1, op13, a7⟩ := stepOk_ranges hso
 have rr : s.r.toNat < k.regs.length := by omega
 have rb : s.b.toNat < k.regs.length := by omega
 have hself : m.cores.set i ⟨k.at_, k.regs, k.view, k.st⟩ = m.cores := by rw [← hkk']; exact qAb _ _ _ hi
 simp only [go_sem, qA, qB, qC, qD, qE, qF, qG, qH, mchV, mchK, hcg, gt, gt2, hdg, gd, hsg, hw1, qA0 k.regs s.r.toNat rr, qA0 k.regs s.b.toNat rb]
 repeat refine K ?_
 by_cases h9 : s.op = 9
 ·have htr : (m.tr.length : Int) = 4000 := by
   apply Decidable.byContradiction
   intro e
   rw [qAr (late := late) hkk hstp hi hst (fun h => e h.2) (by simp [isMem, h9])] at hc
   exact hc rfl
  simp only [go_sem, qA, qB, qC, qD, qE, qF, qG, qH, h9, htr, hcg, gt, gt2, hdg, gd, hsg, hw1, qA0 k.regs s.r.toNat rr, qA0 k.regs s.b.toNat rb]
  repeat refine K ?_
  apply finK_tup (by simp)
  ·repeat' ((first | refine FA 1 1 13 ?_ | refine FA 1 1 14 ?_ | refine FA 1 1 15 ?_ | refine FA 1 1 16 ?_ | refine FA 1 1 17 ?_ | refine FA 1 1 18 ?_ | refine FA 1 1 19 ?_ | refine FA 1 2 13 ?_ | refine FA 1 2 14 ?_ | refine FA 1 2 15 ?_ | refine FA 1 2 16 ?_ | refine FA 1 2 17 ?_ | refine FA 1 2 18 ?_ | refine FA 1 2 19 ?_ | refine FA 0 0 15 ?_ | refine FA 0 0 16 ?_ | refine FA 0 0 17 ?_ | refine FA 0 0 18 ?_ | refine FA 0 0 19 ?_ | fail); simp only [fS, fS2, fS2, qA, qC, qA1, List.set_set, hdself, hself, hcself])
   exact Sub.refl _
  ·simp [-List.drop_one, -gD, qA4, setK, machineC, qA1, hdself, hst, hself] <;> (first | rfl | exact ⟨rfl, rfl⟩ | exact ⟨rfl, rfl, rfl⟩ | skip)
 have h9' : ∀ P : Prop, ¬ (s.op = 9 ∧ P) := fun P e => h9 e.1
 have hfull : (isMem s.op && !decide (s.op = 5) && within (cellOf k s) 0 23 && decide ((4000 : Int) ≤ (m.mem.cells.getD (cellOf k s).toNat []).length)) = true := by
  cases hq : (isMem s.op && !decide (s.op = 5) && within (cellOf k s) 0 23 && decide ((4000 : Int) ≤ (m.mem.cells.getD (cellOf k s).toNat []).length)) with
  | true => rfl
  | false =>
   rw [qAr (late := late) hkk hstp hi hst (h9' _) hq] at hc
   exact absurd rfl hc
 have hmm : isMem s.op = true := by
  simp only [Bool.and_eq_true] at hfull
  exact hfull.1.1.1
 have hop : s.op = 5 ∨ s.op = 6 ∨ s.op = 7 ∨ s.op = 8 := by
  simp only [isMem, Bool.or_eq_true, decide_eq_true_eq] at hmm
  omega
 have hmf := memFull_eq hM hi hmm
 rw [hkk, hfull] at hmf
 have hmd := l8MemoryFull_ok m i late s hM.mem hi (by rw [hkk]; exact e4) (by rw [hkk]; exact e6) hl r0 r1 b0 b1 (by omega) hop hmf
 have h1 : ¬ s.op = 1 := by omega
 have h2 : ¬ s.op = 2 := by omega
 have h3 : ¬ s.op = 3 := by omega
 have h4 : ¬ s.op = 4 := by omega
 have h10 : ¬ s.op = 10 := by omega
 have h11 : ¬ s.op = 11 := by omega
 have h12 : ¬ s.op = 12 := by omega
 have h13 : ¬ s.op = 13 := by omega
 simp only [go_sem, qA, qB, qC, qD, qE, qF, qG, qH, h1, h2, h3, h4, h9, h10, h11, h12, h13, hcg, gt, gt2, hdg, gd, hsg, hw1, qA0 k.regs s.r.toNat rr, qA0 k.regs s.b.toNat rb]
 repeat refine K ?_
 apply qCr
 ·refine FA 1 1 13 ?_
  simp only [fS, fS2, fS2, qA, qC, qA1, List.set_set]
  refine FA 1 2 14 ?_
  simp only [fS, fS2, fS2, qA, qC, hcself, qA1, List.set_set]
  refine FA 0 0 16 ?_
  simp only [fS, fS2, fS2, qA, qC, hdself]
  exact Sub.refl _
 refine CA [(0, 0), (1, 1), (2, 2), (3, 3)] (hmd) ?_
 try simp only [go_sem, qA, qB, qC, qD, qE, qF, qG, qH]
 repeat refine K ?_
 try simp only [go_sem, qA, qB, qC, qD, qE, qF, qG, qH, hcg, gt, gt2, hdg, gd, hsg, hw1, qA0 k.regs s.r.toNat rr, qA0 k.regs s.b.toNat rb]
 repeat refine K ?_
 apply finK_tup (by simp)
 ·repeat' ((first | refine FA 1 1 13 ?_ | refine FA 1 1 14 ?_ | refine FA 1 1 15 ?_ | refine FA 1 1 16 ?_ | refine FA 1 1 17 ?_ | refine FA 1 1 18 ?_ | refine FA 1 1 19 ?_ | refine FA 1 2 13 ?_ | refine FA 1 2 14 ?_ | refine FA 1 2 15 ?_ | refine FA 1 2 16 ?_ | refine FA 1 2 17 ?_ | refine FA 1 2 18 ?_ | refine FA 1 2 19 ?_ | refine FA 0 0 15 ?_ | refine FA 0 0 16 ?_ | refine FA 0 0 17 ?_ | refine FA 0 0 18 ?_ | refine FA 0 0 19 ?_ | fail); simp only [fS, fS2, fS2, qA, qC, qA1, List.set_set, hdself, hself, hcself])
  exact Sub.refl _
 ·simp [-List.drop_one, -gD, qA4, setK, machineC, qA1, hdself, hst, hself] <;> (first | rfl | exact ⟨rfl, rfl⟩ | exact ⟨rfl, rfl, rfl⟩ | skip)
end Go.Sep
