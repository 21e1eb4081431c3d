/- Contracts of functions. -/
import Derived.Test.YtjbknbgdfhihcaaGreatFns
import Derived.Test.YtjbknbgdfhihcaaGreatQa0
import Derived.Test.YtjbknbgdfhihcaaGreatQd0
import Derived.Test.YtjbknbgdfhihcaaGreatQe0
import Derived.Test.YtjbknbgdfhihcaaGreatQf0
import Derived.Test.YtjbknbgdfhihcaaGreatQj0
import Derived.Test.YtjbknbgdfhihcaaGreatQK0
import Derived.Test.YtjbknbgdfhihcaaGreatQt0
import Derived.Test.YtjbknbgdfhihcaaGreatQv0
import Derived.Test.YtjbknbgdfhihcaaGreatQw0
import Derived.Test.YtjbknbgdfhihcaaGreatQy0
import Derived.Test.YtjbknbgdfhihcaaGreatQz0
import Derived.Test.YtjbknbgdfhihcaaGreatQA0
import Derived.Test.YtjbknbgdfhihcaaGreatQM0
import Derived.Test.YtjbknbgdfhihcaaGreatQN0
import Derived.Test.YtjbknbgdfhihcaaGreatQQ0
import Derived.Test.YtjbknbgdfhihcaaGreatQT0
import Derived.Test.YtjbknbgdfhihcaaGreatQV0
import Derived.Test.YtjbknbgdfhihcaaGreatQa2
import Derived.Test.YtjbknbgdfhihcaaGreatQf2
import Derived.Test.YtjbknbgdfhihcaaGreatQK2
import Derived.Test.YtjbknbgdfhihcaaGreatQt2
import Derived.Test.YtjbknbgdfhihcaaGreatQA2
import Derived.Test.YtjbknbgdfhihcaaGreatQC2
import Derived.Test.YtjbknbgdfhihcaaGreatQM2
import Derived.Test.YtjbknbgdfhihcaaGreatQN2
import Derived.Test.YtjbknbgdfhihcaaGreatQQ2
import Derived.Test.YtjbknbgdfhihcaaGreatQT2
namespace Go.Sep
open Go.Proofs
set_option linter.unusedSimpArgs false
set_option linter.unusedVariables false
set_option maxRecDepth 100000
open Nat renaming reduceAdd → qA, reduceMul → qB, reduceEqDiff → qC, reduceBEq → qD
open Int renaming reduceToNat → qE, reduceEq → qF, reduceLT → qG, reduceLE → qH
open List renaming getD_eq_getElem?_getD → gD

-- S2
def m357 : MFn := ⟨201, [.cell 4 4 true, .t 5], .seq (xr [xo 2 (.box (.t 0)), xo 3 (.box (.t 1)), xo 4 (.alloc [.nil, .nil, .nil, .nil]), xo 5 (.mv (xi 0))]) (.seq (xr [xo 12 (.fad 1 (.t 2)), xo 13 (.load 1 false (.t 12)), xo 14 (.fad 0 (.t 3)), xo 15 (.load 1 false (.t 14)), xo 16 (.iad 4 (.t 13) (.t 15)), xo 17 (.load 4 true (.t 16)), xo 6 (.alloc [.int .i64 0, .nil, .nil, .int .i64 0]), ⟨none, .store 4 (.t 6) (.t 17), none⟩]) (.seq (.dreg (.take 0 (xo 18 (.fad 0 (.t 2))) (.take 1 (xo 19 (.load 1 false (.t 18))) (.take 2 (xo 20 (.fad 0 (.t 3))) (.take 3 (xo 21 (.load 1 false (.t 20))) (.take 4 (xo 22 (.iad 1 (.t 19) (.t 21))) (.take 5 (xo 23 (.load 1 false (.t 22))) (.take 6 (xo 24 (.fad 0 (.t 6))) (.take 7 (xo 25 (.load 1 false (.t 24))) (.take 8 (xo 26 (.iad 5 (.t 23) (.t 25))) (.take 9 (xo 27 (.load 5 true (.t 26))) (.only 10 [] (xo 7 (.alloc [xz, xz, xz, xz, xz])) (.only 11 [0, 1, 2, 3, 4, 5, 6, 7, 8, 9] ⟨none, .store 5 (.t 7) (.t 27), none⟩ (.done)))))))))))))) (.seq (xr [xo 28 (.fad 0 (.t 6)), xo 29 (.load 1 false (.t 28)), xo 30 (.bin .add (.t 29) (xi 1)), xv 8 30]) (.seq (.seq (xr [xo 31 (.fad 0 (.t 7)), xo 32 (.load 1 false (.t 31))]) (.blk 0 (.seq (xr [xo 54 (.bin .eql (.t 32) (xi 1)), xv 53 54]) (.cond 53 (xr [xo 55 (.fad 1 (.t 6)), xo 56 (.load 1 false (.t 55)), xo 57 (.fad 1 (.t 7)), xo 58 (.load 1 false (.t 57)), xo 59 (.fad 4 (.t 7)), xo 60 (.load 1 false (.t 59)), xo 61 (.iad 1 (.t 56) (.t 58)), ⟨none, .store 1 (.t 61) (.t 60), none⟩]) (.seq (xr [xo 63 (.bin .eql (.t 32) (xi 2)), xv 62 63]) (.cond 62 (.dreg (.take 0 (xo 64 (.fad 1 (.t 6))) (.take 1 (xo 65 (.load 1 false (.t 64))) (.take 2 (xo 66 (.fad 1 (.t 7))) (.take 3 (xo 67 (.load 1 false (.t 66))) (.take 4 (xo 68 (.fad 1 (.t 6))) (.take 5 (xo 69 (.load 1 false (.t 68))) (.take 6 (xo 70 (.fad 2 (.t 7))) (.take 7 (xo 71 (.load 1 false (.t 70))) (.take 8 (xo 72 (.iad 1 (.t 69) (.t 71))) (.take 9 (xo 73 (.load 1 false (.t 72))) (.take 10 (xo 74 (.fad 1 (.t 6))) (.take 11 (xo 75 (.load 1 false (.t 74))) (.only 12 [] (xo 76 (.fad 3 (.t 7))) (.only 13 [] (xo 77 (.load 1 false (.t 76))) (.only 14 [11, 10] (xo 78 (.iad 1 (.t 75) (.t 77))) (.only 15 [14, 11, 10] (xo 79 (.load 1 false (.t 78))) (.only 16 [9, 15, 8, 14, 5, 7, 11, 4, 6, 10] (xo 80 (.bin .add (.t 73) (.t 79))) (.only 17 [0, 1, 2, 3, 4, 5, 6, 7, 8, 9, 10, 11] (xo 81 (.iad 1 (.t 65) (.t 67))) (.only 18 [0, 1, 2, 3, 4, 5, 6, 7, 8, 9, 10, 11] ⟨none, .store 1 (.t 81) (.t 80), none⟩ (.done))))))))))))))))))))) (.seq (xr [xo 83 (.bin .eql (.t 32) (xi 3)), xv 82 83]) (.cond 82 (.dreg (.take 0 (xo 84 (.fad 1 (.t 6))) (.take 1 (xo 85 (.load 1 false (.t 84))) (.take 2 (xo 86 (.fad 1 (.t 7))) (.take 3 (xo 87 (.load 1 false (.t 86))) (.take 4 (xo 88 (.fad 1 (.t 6))) (.take 5 (xo 89 (.load 1 false (.t 88))) (.take 6 (xo 90 (.fad 2 (.t 7))) (.take 7 (xo 91 (.load 1 false (.t 90))) (.take 8 (xo 92 (.iad 1 (.t 89) (.t 91))) (.take 9 (xo 93 (.load 1 false (.t 92))) (.take 10 (xo 94 (.fad 1 (.t 6))) (.take 11 (xo 95 (.load 1 false (.t 94))) (.only 12 [] (xo 96 (.fad 3 (.t 7))) (.only 13 [] (xo 97 (.load 1 false (.t 96))) (.only 14 [11, 10] (xo 98 (.iad 1 (.t 95) (.t 97))) (.only 15 [14, 11, 10] (xo 99 (.load 1 false (.t 98))) (.only 16 [9, 15, 8, 14, 5, 7, 11, 4, 6, 10] (xo 100 (.bin .sub (.t 93) (.t 99))) (.only 17 [0, 1, 2, 3, 4, 5, 6, 7, 8, 9, 10, 11] (xo 101 (.iad 1 (.t 85) (.t 87))) (.only 18 [0, 1, 2, 3, 4, 5, 6, 7, 8, 9, 10, 11] ⟨none, .store 1 (.t 101) (.t 100), none⟩ (.done))))))))))))))))))))) (.seq (xr [xo 103 (.bin .eql (.t 32) (xi 4)), xv 102 103]) (.cond 102 (.dreg (.take 0 (xo 104 (.fad 1 (.t 6))) (.take 1 (xo 105 (.load 1 false (.t 104))) (.take 2 (xo 106 (.fad 1 (.t 7))) (.take 3 (xo 107 (.load 1 false (.t 106))) (.take 4 (xo 108 (.fad 1 (.t 6))) (.take 5 (xo 109 (.load 1 false (.t 108))) (.take 6 (xo 110 (.fad 2 (.t 7))) (.take 7 (xo 111 (.load 1 false (.t 110))) (.take 8 (xo 112 (.iad 1 (.t 109) (.t 111))) (.take 9 (xo 113 (.load 1 false (.t 112))) (.take 10 (xo 114 (.fad 1 (.t 6))) (.take 11 (xo 115 (.load 1 false (.t 114))) (.only 12 [] (xo 116 (.fad 3 (.t 7))) (.only 13 [] (xo 117 (.load 1 false (.t 116))) (.only 14 [11, 10] (xo 118 (.iad 1 (.t 115) (.t 117))) (.only 15 [14, 11, 10] (xo 119 (.load 1 false (.t 118))) (.only 16 [9, 15, 8, 14, 5, 7, 11, 4, 6, 10] (xo 120 (.bin .lss (.t 113) (.t 119))) (.only 17 [16, 9, 15, 8, 14, 5, 7, 11, 4, 6, 10] (xo 121 (.call 85 [false] [.t 120])) (.only 18 [0, 1, 2, 3, 4, 5, 6, 7, 8, 9, 10, 11] (xo 122 (.iad 1 (.t 105) (.t 107))) (.only 19 [0, 1, 2, 3, 4, 5, 6, 7, 8, 9, 10, 11] ⟨none, .store 1 (.t 122) (.t 121), none⟩ (.done)))))))))))))))))))))) (.seq (xr [xo 124 (.bin .eql (.t 32) (xi 9)), xv 123 124]) (.cond 123 (.seq (.seq (xr [xo 125 (.fad 3 (.t 2)), xo 126 (.load 1 false (.t 125)), xo 127 (.len (.t 126)), xo 128 (.bin .eql (.t 127) (xi 4000))]) (.cond 128 (.seq (xr [xo 129 (.load 4 true (.t 2)), ⟨none, .store 4 (.t 4) (.t 129), none⟩, xo 5 (.mv (xi 3))]) (.ret)) (.skip))) (.dreg (.take 0 (xo 130 (.fad 3 (.t 2))) (.take 1 (xo 131 (.load 1 false (.t 130))) (.take 2 (xo 132 (.fad 0 (.t 3))) (.take 3 (xo 133 (.load 1 false (.t 132))) (.take 4 (xo 134 (.fad 1 (.t 6))) (.take 5 (xo 135 (.load 1 false (.t 134))) (.only 6 [] (xo 136 (.fad 2 (.t 7))) (.only 7 [] (xo 137 (.load 1 false (.t 136))) (.only 8 [5, 4] (xo 138 (.iad 1 (.t 135) (.t 137))) (.only 9 [8, 5, 4] (xo 139 (.load 1 false (.t 138))) (.only 10 [3, 9, 2, 8, 5, 4] (xo 140 (.build [xz, xz] [(0, 1, .t 133), (1, 1, .t 139)])) (.only 11 [10, 3, 9, 2, 8, 5, 4] (xo 141 (.mkSl [xz, xz] 1 [(0, .t 140)])) (.only 12 [1, 11, 0, 10, 3, 9, 2, 8, 5, 4] (xo 142 (.app 2 16 (.t 131) (.t 141))) (.only 13 [0, 1, 2, 3, 4, 5] (xo 143 (.fad 3 (.t 2))) (.only 14 [0, 1, 2, 3, 4, 5] ⟨none, .store 1 (.t 143) (.t 142), none⟩ (.done)))))))))))))))))) (.seq (xr [xo 145 (.bin .eql (.t 32) (xi 10)), xv 144 145]) (.cond 144 (xr [xo 146 (.fad 4 (.t 7)), xo 147 (.load 1 false (.t 146)), xv 8 147]) (.seq (xr [xo 149 (.bin .eql (.t 32) (xi 11)), xv 148 149]) (.cond 148 (.seq (xr [xo 150 (.fad 1 (.t 6)), xo 151 (.load 1 false (.t 150)), xo 152 (.fad 2 (.t 7)), xo 153 (.load 1 false (.t 152)), xo 154 (.iad 1 (.t 151) (.t 153)), xo 155 (.load 1 false (.t 154)), xo 156 (.bin .eql (.t 155) (xi 0))]) (.cond 156 (xr [xo 157 (.fad 4 (.t 7)), xo 158 (.load 1 false (.t 157)), xv 8 158]) (.skip))) (.seq (xr [xo 160 (.bin .eql (.t 32) (xi 12)), xv 159 160]) (.cond 159 (.seq (xr [xo 161 (.fad 1 (.t 2)), xo 162 (.load 1 false (.t 161)), xo 163 (.fad 0 (.t 3)), xo 164 (.load 1 false (.t 163)), xo 165 (.iad 4 (.t 162) (.t 164)), xo 166 (.fad 3 (.t 165)), ⟨none, .store 1 (.t 166) (xi 1), none⟩]) (.seq (xr [xo 167 (.load 4 true (.t 2)), ⟨none, .store 4 (.t 4) (.t 167), none⟩, xo 5 (.mv (xi 0))]) (.ret))) (.seq (xr [xo 169 (.bin .eql (.t 32) (xi 13)), xv 168 169]) (.cond 168 (.seq (xr [xo 170 (.fad 1 (.t 2)), xo 171 (.load 1 false (.t 170)), xo 172 (.fad 0 (.t 3)), xo 173 (.load 1 false (.t 172)), xo 174 (.iad 4 (.t 171) (.t 173)), xo 175 (.fad 3 (.t 174)), ⟨none, .store 1 (.t 175) (xi 2), none⟩]) (.seq (xr [xo 176 (.load 4 true (.t 2)), ⟨none, .store 4 (.t 4) (.t 176), none⟩, xo 5 (.mv (xi 0))]) (.ret))) (.seq (xr [xo 34 (.load 4 true (.t 2)), xo 35 (.load 2 true (.t 3)), xo 36 (.load 5 true (.t 7)), xo 37 (.call 365 [true, false, false] [.t 34, .t 35, .t 36]), xv 33 37, xo 38 (.ext (.t 33) 0), xo 39 (.ext (.t 33) 1), xo 40 (.ext (.t 33) 2), xo 9 (.alloc [.nil, .nil, .nil, .nil]), ⟨none, .store 4 (.t 9) (.t 38), none⟩, xv 10 39, xv 11 40]) (.seq (.seq (xr [xv 41 11]) (.cond 41 (.seq (xr [xo 42 (.load 4 true (.t 2)), ⟨none, .store 4 (.t 4) (.t 42), none⟩, xo 5 (.mv (xi 3))]) (.ret)) (.skip))) (.seq (xr [xo 43 (.load 4 true (.t 9)), ⟨none, .store 4 (.t 2) (.t 43), none⟩]) (.seq (xr [xv 44 10, xo 45 (.un .«not» (.t 44))]) (.cond 45 (.seq (xr [xo 46 (.fad 1 (.t 2)), xo 47 (.load 1 false (.t 46)), xo 48 (.fad 0 (.t 3)), xo 49 (.load 1 false (.t 48)), xo 50 (.iad 4 (.t 47) (.t 49)), xo 51 (.fad 3 (.t 50)), ⟨none, .store 1 (.t 51) (xi 2), none⟩]) (.seq (xr [xo 52 (.load 4 true (.t 2)), ⟨none, .store 4 (.t 4) (.t 52), none⟩, xo 5 (.mv (xi 0))]) (.ret))) (.skip)))))))))))))))))))))))))) (.seq (.seq (xr [xv 177 8, xo 178 (.fad 0 (.t 2)), xo 179 (.load 1 false (.t 178)), xo 180 (.fad 0 (.t 3)), xo 181 (.load 1 false (.t 180)), xo 182 (.iad 1 (.t 179) (.t 181)), xo 183 (.load 1 false (.t 182)), xo 184 (.len (.t 183)), xo 185 (.bin .geq (.t 177) (.t 184))]) (.cond 185 (.seq (xr [xo 186 (.fad 1 (.t 2)), xo 187 (.load 1 false (.t 186)), xo 188 (.fad 0 (.t 3)), xo 189 (.load 1 false (.t 188)), xo 190 (.iad 4 (.t 187) (.t 189)), xo 191 (.fad 3 (.t 190)), ⟨none, .store 1 (.t 191) (xi 2), none⟩]) (.seq (xr [xo 192 (.load 4 true (.t 2)), ⟨none, .store 4 (.t 4) (.t 192), none⟩, xo 5 (.mv (xi 0))]) (.ret))) (.skip))) (.seq (xr [xo 193 (.fad 1 (.t 2)), xo 194 (.load 1 false (.t 193)), xo 195 (.fad 0 (.t 3)), xo 196 (.load 1 false (.t 195)), xv 197 8, xo 198 (.iad 4 (.t 194) (.t 196)), xo 199 (.fad 0 (.t 198)), ⟨none, .store 1 (.t 199) (.t 197), none⟩]) (.seq (xr [xo 200 (.load 4 true (.t 2)), ⟨none, .store 4 (.t 4) (.t 200), none⟩, xo 5 (.mv (xi 0))]) (.ret))))))))⟩
theorem c357 : chkC Tryz.prog num Tryz.f56.ntmps m357.body ((Tryz.f56.body).getD .skip) = true := by kernel_rfl
theorem memFull_eq {m : Machine} {i : Nat} {s : Step} (hM : MOk m) (hi : i < m.cores.length) (hs : isMem s.op = true) : memFull m i s = (isMem s.op && !decide (s.op = 5) && within (cellOf (coreAt m i) s) 0 23 && decide ((4000 : Int) ≤ (m.mem.cells.getD (cellOf (coreAt m i) s).toNat []).length)) := by
  unfold memFull
  rw [hs, Bool.true_and]
  cases hw : within (cellOf (coreAt m i) s) 0 23
  · simp
  · rw [within_iff] at hw
    have := (hM.mem.cell (cellOf (coreAt m i) s).toNat (by omega)).2
    congr 1
    rw [decide_eq_decide]
    omega
set_option maxHeartbeats 16000000 in
theorem l8Step_ok (m : Machine) (i : Nat) (late : Int) (hM : MOk m) (hi : i < m.cores.length) (hst : (coreAt m i).st = 0) (hc : (mstep m ⟨i, late⟩).2 = 0) (hl : -(2 ^ 63) ≤ late ∧ late < 2 ^ 63) :
    CallOk Tryz.prog num 357 [mchV m, .agg (pickC ⟨i, late⟩)] (mchF m) (.tup [.agg (machineC .own (mstep m ⟨i, late⟩).1), .int .i64 0]) := by
  refine enter (m := m357) (f := 357) (fn := Tryz.f56) Tryz.func56 (by kernel_rfl) rfl c357 rfl (by simp [Tryz.f56]) (by simp [bnds, bnd, nf_sl, nf_int, nf_bool, nf_str, ints_bnd]) (mchF_hb m) ?_
  unfold m357
  have n4 := hM.n4
  have hcl := hM.cores
  have hj : i < m.codes.length := by omega
  have hK := hM.core i hi
  have e1 := hK.at0
  have e2 := hK.at1
  have e4 := hK.regs
  have e6 := hK.view
  have hso := stepAt_ok hM hi
  have hcg := cores_getD .own m.cores i hi
  have gt : ∀ r, ((cores .own m.cores).set i r).getD i [] = r := fun r => getD_set_self _ _ _ _ (by rw [cores_length]; exact hi)
  have gt2 : ∀ k r, ((cores .own (m.cores.set i k)).set i r).getD i [] = r := fun k r => getD_set_self _ _ _ _ (by rw [cores_length, List.length_set]; exact hi)
  have hdg := codes_getD .own m.codes i hj
  have gd : ∀ r, ((codes .own m.codes).set i r).getD i [] = r := fun r => getD_set_self _ _ _ _ (by rw [codes_length]; exact hj)
  have hdself : (codes .own m.codes).set i [.sl .own 5 (steps (m.codes.getD i []))] = codes .own m.codes := by rw [← hdg, set_getD_self _ _ _ (by rw [codes_length]; exact hj)]
  have hcself : (cores .own m.cores).set i [.int .i64 (coreAt m i).at_, .sl .own 1 (ints (coreAt m i).regs), .sl .own 1 (ints (coreAt m i).view), .int .i64 (coreAt m i).st] = cores .own m.cores := by rw [show coreAt m i = m.cores.getD i default from rfl, ← hcg, set_getD_self _ _ _ (by rw [cores_length]; exact hi)]
  have hsg := steps_getD (m.codes.getD i []) (coreAt m i).at_.toNat (by omega)
  have hl800 : (m.codes.getD i []).length ≤ 800 := by
    have := hK.code
    unfold codeOk at this
    simp only [Bool.and_eq_true, within_iff] at this
    omega
  generalize hkk : coreAt m i = k at *
  have hkk' : m.cores.getD i default = k := hkk
  rw [hkk'] at hcg
  have hss : (m.codes.getD i []).getD k.at_.toNat default = stepAt m i := by rw [← hkk]; rfl
  rw [hss] at hsg
  generalize hstp : stepAt m i = s at *
  generalize hcd : m.codes.getD i [] = cd at *
  have hw1 : IntKind.i64.wrap (k.at_ + 1) = k.at_ + 1 := wrap64 (by omega) (by omega)
  obtain ⟨r0, r1, b0, b1, op1, op13, a7⟩ := stepOk_ranges hso
  have rr : s.r.toNat < k.regs.length := by omega
  have rb : s.b.toNat < k.regs.length := by omega
  simp only [go_sem, qA, qB, qC, qD, qE, qF, qG, qH, mchV, mchF, hcg, gt, gt2, hdg, gd, hsg, hw1, ints_getD k.regs s.r.toNat rr, ints_getD k.regs s.b.toNat rb]
  repeat refine K ?_
  by_cases h9 : s.op = 9
  · have htr : ¬ (m.tr.length : Int) = 4000 := fun e => by
      rw [mstep_over (late := late) hkk hstp hi (.inl (.inr ⟨h9, e⟩))] at hc
      simp at hc
    have ra : s.a.toNat < k.regs.length := by omega
    have hst0 := mstep_of (late := late) hkk hstp hi hst (fun e => htr e.2) (by simp [isMem, h9])
    have hgo : mdo m i late = goOn ⟨m.codes, m.cores, m.mem, m.tr ++ [⟨i, k.regs.getD s.a.toNat 0⟩]⟩ i k (k.at_ + 1) := by
      unfold mdo
      simp [hkk, hstp, h9, isMem, rg]
    have htl : m.tr.length ≤ 4000 := by
      have := hM.tr
      unfold notesOk at this
      simp only [Bool.and_eq_true, decide_eq_true_eq] at this
      omega
    simp only [go_sem, qA, qB, qC, qD, qE, qF, qG, qH, h9, htr, hcg, gt, gt2, hdg, gd, hsg, hw1, ints_getD k.regs s.r.toNat rr, ints_getD k.regs s.b.toNat rb, ints_getD k.regs s.a.toNat ra]
    repeat refine K ?_
    try simp only [go_sem, qA, qB, qC, qD, qE, qF, qG, qH, h9, htr, hcg, gt, gt2, hdg, gd, hsg, hw1, ints_getD k.regs s.r.toNat rr, ints_getD k.regs s.b.toNat rb, ints_getD k.regs s.a.toNat ra]
    repeat refine K ?_
    by_cases hn : (cd.length : Int) ≤ k.at_ + 1
    · rw [hst0, hgo, goOn_end (by rw [hcd]; exact hn)]
      simp only [go_sem, qA, qB, qC, qD, qE, qF, qG, qH, hn, hcg, gt, gt2, hdg, gd, hsg, hw1, ints_getD k.regs s.r.toNat rr, ints_getD k.regs s.b.toNat rb, ints_getD k.regs s.a.toNat ra]
      repeat refine K ?_
      apply fin_tup (by simp)
      · repeat' ((first | refine FA 1 1 13 ?_ | refine FA 1 1 14 ?_ | refine FA 1 1 15 ?_ | refine FA 1 1 16 ?_ | refine FA 1 1 17 ?_ | refine FA 1 1 18 ?_ | refine FA 1 1 19 ?_ | refine FA 1 2 13 ?_ | refine FA 1 2 14 ?_ | refine FA 1 2 15 ?_ | refine FA 1 2 16 ?_ | refine FA 1 2 17 ?_ | refine FA 1 2 18 ?_ | refine FA 1 2 19 ?_ | refine FA 0 0 15 ?_ | refine FA 0 0 16 ?_ | refine FA 0 0 17 ?_ | refine FA 0 0 18 ?_ | refine FA 0 0 19 ?_ | fail); simp only [fS, fS2, fS2, qA, qC, cores_set, List.set_set, hdself])
        exact Sub.refl _
      · simp [-List.drop_one, -gD, machineC_setK, setK, machineC, cores_set, hdself, hst, notes_one, notes_append] <;> (first | rfl | exact ⟨rfl, rfl⟩ | exact ⟨rfl, rfl, rfl⟩ | skip)
    · rw [hst0, hgo, goOn_next (by rw [hcd]; exact hn)]
      simp only [go_sem, qA, qB, qC, qD, qE, qF, qG, qH, hn, hcg, gt, gt2, hdg, gd, hsg, hw1, ints_getD k.regs s.r.toNat rr, ints_getD k.regs s.b.toNat rb, ints_getD k.regs s.a.toNat ra]
      repeat refine K ?_
      apply fin_tup (by simp)
      · repeat' ((first | refine FA 1 1 13 ?_ | refine FA 1 1 14 ?_ | refine FA 1 1 15 ?_ | refine FA 1 1 16 ?_ | refine FA 1 1 17 ?_ | refine FA 1 1 18 ?_ | refine FA 1 1 19 ?_ | refine FA 1 2 13 ?_ | refine FA 1 2 14 ?_ | refine FA 1 2 15 ?_ | refine FA 1 2 16 ?_ | refine FA 1 2 17 ?_ | refine FA 1 2 18 ?_ | refine FA 1 2 19 ?_ | refine FA 0 0 15 ?_ | refine FA 0 0 16 ?_ | refine FA 0 0 17 ?_ | refine FA 0 0 18 ?_ | refine FA 0 0 19 ?_ | fail); simp only [fS, fS2, fS2, qA, qC, cores_set, List.set_set, hdself])
        exact Sub.refl _
      · simp [-List.drop_one, -gD, machineC_setK, setK, machineC, cores_set, hdself, hst, notes_one, notes_append] <;> (first | rfl | exact ⟨rfl, rfl⟩ | exact ⟨rfl, rfl, rfl⟩ | skip)
  have h9' : ∀ P : Prop, ¬ (s.op = 9 ∧ P) := fun P e => h9 e.1
  by_cases h1 : s.op = 1
  · have ra : s.a.toNat < k.regs.length := by omega
    have hst0 := mstep_of (late := late) hkk hstp hi hst (h9' _) (by simp [isMem, h1])
    have hgo : mdo m i late = goOn m i ⟨k.at_, k.regs.set s.r.toNat s.n, k.view, k.st⟩ (k.at_ + 1) := by
      unfold mdo
      simp [hkk, hstp, h1, isMem, alu, nextAt, setR, rg]
    simp only [go_sem, qA, qB, qC, qD, qE, qF, qG, qH, h1, hcg, gt, gt2, hdg, gd, hsg, hw1, ints_getD k.regs s.r.toNat rr, ints_getD k.regs s.b.toNat rb, ints_getD k.regs s.a.toNat ra]
    repeat refine K ?_
    by_cases hn : (cd.length : Int) ≤ k.at_ + 1
    · rw [hst0, hgo, goOn_end (by rw [hcd]; exact hn)]
      simp only [go_sem, qA, qB, qC, qD, qE, qF, qG, qH, hn, hcg, gt, gt2, hdg, gd, hsg, hw1, ints_getD k.regs s.r.toNat rr, ints_getD k.regs s.b.toNat rb, ints_getD k.regs s.a.toNat ra]
      repeat refine K ?_
      apply fin_tup (by simp)
      · repeat' ((first | refine FA 1 1 13 ?_ | refine FA 1 1 14 ?_ | refine FA 1 1 15 ?_ | refine FA 1 1 16 ?_ | refine FA 1 1 17 ?_ | refine FA 1 1 18 ?_ | refine FA 1 1 19 ?_ | refine FA 1 2 13 ?_ | refine FA 1 2 14 ?_ | refine FA 1 2 15 ?_ | refine FA 1 2 16 ?_ | refine FA 1 2 17 ?_ | refine FA 1 2 18 ?_ | refine FA 1 2 19 ?_ | refine FA 0 0 15 ?_ | refine FA 0 0 16 ?_ | refine FA 0 0 17 ?_ | refine FA 0 0 18 ?_ | refine FA 0 0 19 ?_ | fail); simp only [fS, fS2, fS2, qA, qC, cores_set, List.set_set, hdself])
        exact Sub.refl _
      · simp [-List.drop_one, -gD, machineC_setK, setK, machineC, cores_set, hdself, hst, notes_one, notes_append] <;> (first | rfl | exact ⟨rfl, rfl⟩ | exact ⟨rfl, rfl, rfl⟩ | skip)
    · rw [hst0, hgo, goOn_next (by rw [hcd]; exact hn)]
      simp only [go_sem, qA, qB, qC, qD, qE, qF, qG, qH, hn, hcg, gt, gt2, hdg, gd, hsg, hw1, ints_getD k.regs s.r.toNat rr, ints_getD k.regs s.b.toNat rb, ints_getD k.regs s.a.toNat ra]
      repeat refine K ?_
      apply fin_tup (by simp)
      · repeat' ((first | refine FA 1 1 13 ?_ | refine FA 1 1 14 ?_ | refine FA 1 1 15 ?_ | refine FA 1 1 16 ?_ | refine FA 1 1 17 ?_ | refine FA 1 1 18 ?_ | refine FA 1 1 19 ?_ | refine FA 1 2 13 ?_ | refine FA 1 2 14 ?_ | refine FA 1 2 15 ?_ | refine FA 1 2 16 ?_ | refine FA 1 2 17 ?_ | refine FA 1 2 18 ?_ | refine FA 1 2 19 ?_ | refine FA 0 0 15 ?_ | refine FA 0 0 16 ?_ | refine FA 0 0 17 ?_ | refine FA 0 0 18 ?_ | refine FA 0 0 19 ?_ | fail); simp only [fS, fS2, fS2, qA, qC, cores_set, List.set_set, hdself])
        exact Sub.refl _
      · simp [-List.drop_one, -gD, machineC_setK, setK, machineC, cores_set, hdself, hst, notes_one, notes_append] <;> (first | rfl | exact ⟨rfl, rfl⟩ | exact ⟨rfl, rfl, rfl⟩ | skip)
  by_cases h2 : s.op = 2
  · have ra : s.a.toNat < k.regs.length := by omega
    have hst0 := mstep_of (late := late) hkk hstp hi hst (h9' _) (by simp [isMem, h2])
    have hgo : mdo m i late = goOn m i ⟨k.at_, k.regs.set s.r.toNat (IntKind.i64.wrap (k.regs.getD s.a.toNat 0 + k.regs.getD s.b.toNat 0)), k.view, k.st⟩ (k.at_ + 1) := by
      unfold mdo
      simp [hkk, hstp, h2, isMem, alu, nextAt, setR, rg]
    simp only [go_sem, qA, qB, qC, qD, qE, qF, qG, qH, h2, hcg, gt, gt2, hdg, gd, hsg, hw1, ints_getD k.regs s.r.toNat rr, ints_getD k.regs s.b.toNat rb, ints_getD k.regs s.a.toNat ra]
    repeat refine K ?_
    by_cases hn : (cd.length : Int) ≤ k.at_ + 1
    · rw [hst0, hgo, goOn_end (by rw [hcd]; exact hn)]
      simp only [go_sem, qA, qB, qC, qD, qE, qF, qG, qH, hn, hcg, gt, gt2, hdg, gd, hsg, hw1, ints_getD k.regs s.r.toNat rr, ints_getD k.regs s.b.toNat rb, ints_getD k.regs s.a.toNat ra]
      repeat refine K ?_
      apply fin_tup (by simp)
      · repeat' ((first | refine FA 1 1 13 ?_ | refine FA 1 1 14 ?_ | refine FA 1 1 15 ?_ | refine FA 1 1 16 ?_ | refine FA 1 1 17 ?_ | refine FA 1 1 18 ?_ | refine FA 1 1 19 ?_ | refine FA 1 2 13 ?_ | refine FA 1 2 14 ?_ | refine FA 1 2 15 ?_ | refine FA 1 2 16 ?_ | refine FA 1 2 17 ?_ | refine FA 1 2 18 ?_ | refine FA 1 2 19 ?_ | refine FA 0 0 15 ?_ | refine FA 0 0 16 ?_ | refine FA 0 0 17 ?_ | refine FA 0 0 18 ?_ | refine FA 0 0 19 ?_ | fail); simp only [fS, fS2, fS2, qA, qC, cores_set, List.set_set, hdself])
        exact Sub.refl _
      · simp [-List.drop_one, -gD, machineC_setK, setK, machineC, cores_set, hdself, hst, notes_one, notes_append] <;> (first | rfl | exact ⟨rfl, rfl⟩ | exact ⟨rfl, rfl, rfl⟩ | skip)
    · rw [hst0, hgo, goOn_next (by rw [hcd]; exact hn)]
      simp only [go_sem, qA, qB, qC, qD, qE, qF, qG, qH, hn, hcg, gt, gt2, hdg, gd, hsg, hw1, ints_getD k.regs s.r.toNat rr, ints_getD k.regs s.b.toNat rb, ints_getD k.regs s.a.toNat ra]
      repeat refine K ?_
      apply fin_tup (by simp)
      · repeat' ((first | refine FA 1 1 13 ?_ | refine FA 1 1 14 ?_ | refine FA 1 1 15 ?_ | refine FA 1 1 16 ?_ | refine FA 1 1 17 ?_ | refine FA 1 1 18 ?_ | refine FA 1 1 19 ?_ | refine FA 1 2 13 ?_ | refine FA 1 2 14 ?_ | refine FA 1 2 15 ?_ | refine FA 1 2 16 ?_ | refine FA 1 2 17 ?_ | refine FA 1 2 18 ?_ | refine FA 1 2 19 ?_ | refine FA 0 0 15 ?_ | refine FA 0 0 16 ?_ | refine FA 0 0 17 ?_ | refine FA 0 0 18 ?_ | refine FA 0 0 19 ?_ | fail); simp only [fS, fS2, fS2, qA, qC, cores_set, List.set_set, hdself])
        exact Sub.refl _
      · simp [-List.drop_one, -gD, machineC_setK, setK, machineC, cores_set, hdself, hst, notes_one, notes_append] <;> (first | rfl | exact ⟨rfl, rfl⟩ | exact ⟨rfl, rfl, rfl⟩ | skip)
  by_cases h3 : s.op = 3
  · have ra : s.a.toNat < k.regs.length := by omega
    have hst0 := mstep_of (late := late) hkk hstp hi hst (h9' _) (by simp [isMem, h3])
    have hgo : mdo m i late = goOn m i ⟨k.at_, k.regs.set s.r.toNat (IntKind.i64.wrap (k.regs.getD s.a.toNat 0 - k.regs.getD s.b.toNat 0)), k.view, k.st⟩ (k.at_ + 1) := by
      unfold mdo
      simp [hkk, hstp, h3, isMem, alu, nextAt, setR, rg]
    simp only [go_sem, qA, qB, qC, qD, qE, qF, qG, qH, h3, hcg, gt, gt2, hdg, gd, hsg, hw1, ints_getD k.regs s.r.toNat rr, ints_getD k.regs s.b.toNat rb, ints_getD k.regs s.a.toNat ra]
    repeat refine K ?_
    by_cases hn : (cd.length : Int) ≤ k.at_ + 1
    · rw [hst0, hgo, goOn_end (by rw [hcd]; exact hn)]
      simp only [go_sem, qA, qB, qC, qD, qE, qF, qG, qH, hn, hcg, gt, gt2, hdg, gd, hsg, hw1, ints_getD k.regs s.r.toNat rr, ints_getD k.regs s.b.toNat rb, ints_getD k.regs s.a.toNat ra]
      repeat refine K ?_
      apply fin_tup (by simp)
      · repeat' ((first | refine FA 1 1 13 ?_ | refine FA 1 1 14 ?_ | refine FA 1 1 15 ?_ | refine FA 1 1 16 ?_ | refine FA 1 1 17 ?_ | refine FA 1 1 18 ?_ | refine FA 1 1 19 ?_ | refine FA 1 2 13 ?_ | refine FA 1 2 14 ?_ | refine FA 1 2 15 ?_ | refine FA 1 2 16 ?_ | refine FA 1 2 17 ?_ | refine FA 1 2 18 ?_ | refine FA 1 2 19 ?_ | refine FA 0 0 15 ?_ | refine FA 0 0 16 ?_ | refine FA 0 0 17 ?_ | refine FA 0 0 18 ?_ | refine FA 0 0 19 ?_ | fail); simp only [fS, fS2, fS2, qA, qC, cores_set, List.set_set, hdself])
        exact Sub.refl _
      · simp [-List.drop_one, -gD, machineC_setK, setK, machineC, cores_set, hdself, hst, notes_one, notes_append] <;> (first | rfl | exact ⟨rfl, rfl⟩ | exact ⟨rfl, rfl, rfl⟩ | skip)
    · rw [hst0, hgo, goOn_next (by rw [hcd]; exact hn)]
      simp only [go_sem, qA, qB, qC, qD, qE, qF, qG, qH, hn, hcg, gt, gt2, hdg, gd, hsg, hw1, ints_getD k.regs s.r.toNat rr, ints_getD k.regs s.b.toNat rb, ints_getD k.regs s.a.toNat ra]
      repeat refine K ?_
      apply fin_tup (by simp)
      · repeat' ((first | refine FA 1 1 13 ?_ | refine FA 1 1 14 ?_ | refine FA 1 1 15 ?_ | refine FA 1 1 16 ?_ | refine FA 1 1 17 ?_ | refine FA 1 1 18 ?_ | refine FA 1 1 19 ?_ | refine FA 1 2 13 ?_ | refine FA 1 2 14 ?_ | refine FA 1 2 15 ?_ | refine FA 1 2 16 ?_ | refine FA 1 2 17 ?_ | refine FA 1 2 18 ?_ | refine FA 1 2 19 ?_ | refine FA 0 0 15 ?_ | refine FA 0 0 16 ?_ | refine FA 0 0 17 ?_ | refine FA 0 0 18 ?_ | refine FA 0 0 19 ?_ | fail); simp only [fS, fS2, fS2, qA, qC, cores_set, List.set_set, hdself])
        exact Sub.refl _
      · simp [-List.drop_one, -gD, machineC_setK, setK, machineC, cores_set, hdself, hst, notes_one, notes_append] <;> (first | rfl | exact ⟨rfl, rfl⟩ | exact ⟨rfl, rfl, rfl⟩ | skip)
  by_cases h4 : s.op = 4
  · have ra : s.a.toNat < k.regs.length := by omega
    have hst0 := mstep_of (late := late) hkk hstp hi hst (h9' _) (by simp [isMem, h4])
    have hgo : mdo m i late = goOn m i ⟨k.at_, k.regs.set s.r.toNat (numb (decide (k.regs.getD s.a.toNat 0 < k.regs.getD s.b.toNat 0))), k.view, k.st⟩ (k.at_ + 1) := by
      unfold mdo
      simp [hkk, hstp, h4, isMem, alu, nextAt, setR, rg]
    simp only [go_sem, qA, qB, qC, qD, qE, qF, qG, qH, h4, hcg, gt, gt2, hdg, gd, hsg, hw1, ints_getD k.regs s.r.toNat rr, ints_getD k.regs s.b.toNat rb, ints_getD k.regs s.a.toNat ra]
    repeat refine K ?_
    refine DA [] (l4Bit_ok (decide (k.regs.getD s.a.toNat 0 < k.regs.getD s.b.toNat 0))) ?_
    try simp only [go_sem, qA, qB, qC, qD, qE, qF, qG, qH]
    repeat refine K ?_
    try simp only [go_sem, qA, qB, qC, qD, qE, qF, qG, qH, h4, hcg, gt, gt2, hdg, gd, hsg, hw1, ints_getD k.regs s.r.toNat rr, ints_getD k.regs s.b.toNat rb, ints_getD k.regs s.a.toNat ra]
    repeat refine K ?_
    by_cases hn : (cd.length : Int) ≤ k.at_ + 1
    · rw [hst0, hgo, goOn_end (by rw [hcd]; exact hn)]
      simp only [go_sem, qA, qB, qC, qD, qE, qF, qG, qH, hn, hcg, gt, gt2, hdg, gd, hsg, hw1, ints_getD k.regs s.r.toNat rr, ints_getD k.regs s.b.toNat rb, ints_getD k.regs s.a.toNat ra]
      repeat refine K ?_
      apply fin_tup (by simp)
      · repeat' ((first | refine FA 1 1 13 ?_ | refine FA 1 1 14 ?_ | refine FA 1 1 15 ?_ | refine FA 1 1 16 ?_ | refine FA 1 1 17 ?_ | refine FA 1 1 18 ?_ | refine FA 1 1 19 ?_ | refine FA 1 2 13 ?_ | refine FA 1 2 14 ?_ | refine FA 1 2 15 ?_ | refine FA 1 2 16 ?_ | refine FA 1 2 17 ?_ | refine FA 1 2 18 ?_ | refine FA 1 2 19 ?_ | refine FA 0 0 15 ?_ | refine FA 0 0 16 ?_ | refine FA 0 0 17 ?_ | refine FA 0 0 18 ?_ | refine FA 0 0 19 ?_ | fail); simp only [fS, fS2, fS2, qA, qC, cores_set, List.set_set, hdself])
        exact Sub.refl _
      · simp [-List.drop_one, -gD, machineC_setK, setK, machineC, cores_set, hdself, hst, notes_one, notes_append] <;> (first | rfl | exact ⟨rfl, rfl⟩ | exact ⟨rfl, rfl, rfl⟩ | skip)
    · rw [hst0, hgo, goOn_next (by rw [hcd]; exact hn)]
      simp only [go_sem, qA, qB, qC, qD, qE, qF, qG, qH, hn, hcg, gt, gt2, hdg, gd, hsg, hw1, ints_getD k.regs s.r.toNat rr, ints_getD k.regs s.b.toNat rb, ints_getD k.regs s.a.toNat ra]
      repeat refine K ?_
      apply fin_tup (by simp)
      · repeat' ((first | refine FA 1 1 13 ?_ | refine FA 1 1 14 ?_ | refine FA 1 1 15 ?_ | refine FA 1 1 16 ?_ | refine FA 1 1 17 ?_ | refine FA 1 1 18 ?_ | refine FA 1 1 19 ?_ | refine FA 1 2 13 ?_ | refine FA 1 2 14 ?_ | refine FA 1 2 15 ?_ | refine FA 1 2 16 ?_ | refine FA 1 2 17 ?_ | refine FA 1 2 18 ?_ | refine FA 1 2 19 ?_ | refine FA 0 0 15 ?_ | refine FA 0 0 16 ?_ | refine FA 0 0 17 ?_ | refine FA 0 0 18 ?_ | refine FA 0 0 19 ?_ | fail); simp only [fS, fS2, fS2, qA, qC, cores_set, List.set_set, hdself])
        exact Sub.refl _
      · simp [-List.drop_one, -gD, machineC_setK, setK, machineC, cores_set, hdself, hst, notes_one, notes_append] <;> (first | rfl | exact ⟨rfl, rfl⟩ | exact ⟨rfl, rfl, rfl⟩ | skip)
  by_cases h10 : s.op = 10
  · have hst0 := mstep_of (late := late) hkk hstp hi hst (h9' _) (by simp [isMem, h10])
    have hgo : mdo m i late = goOn m i k s.n := by
      unfold mdo
      simp [hkk, hstp, h10, isMem, alu, nextAt]
    simp only [go_sem, qA, qB, qC, qD, qE, qF, qG, qH, h10, h9, hcg, gt, gt2, hdg, gd, hsg, hw1, ints_getD k.regs s.r.toNat rr, ints_getD k.regs s.b.toNat rb]
    repeat refine K ?_
    by_cases hn : (cd.length : Int) ≤ s.n
    · rw [hst0, hgo, goOn_end (by rw [hcd]; exact hn)]
      simp only [go_sem, qA, qB, qC, qD, qE, qF, qG, qH, hn, hcg, gt, gt2, hdg, gd, hsg, hw1, ints_getD k.regs s.r.toNat rr, ints_getD k.regs s.b.toNat rb]
      repeat refine K ?_
      apply fin_tup (by simp)
      · repeat' ((first | refine FA 1 1 13 ?_ | refine FA 1 1 14 ?_ | refine FA 1 1 15 ?_ | refine FA 1 1 16 ?_ | refine FA 1 1 17 ?_ | refine FA 1 1 18 ?_ | refine FA 1 1 19 ?_ | refine FA 1 2 13 ?_ | refine FA 1 2 14 ?_ | refine FA 1 2 15 ?_ | refine FA 1 2 16 ?_ | refine FA 1 2 17 ?_ | refine FA 1 2 18 ?_ | refine FA 1 2 19 ?_ | refine FA 0 0 15 ?_ | refine FA 0 0 16 ?_ | refine FA 0 0 17 ?_ | refine FA 0 0 18 ?_ | refine FA 0 0 19 ?_ | fail); simp only [fS, fS2, fS2, qA, qC, cores_set, List.set_set, hdself])
        exact Sub.refl _
      · simp [-List.drop_one, -gD, machineC_setK, setK, machineC, cores_set, hdself, hst, notes_one, notes_append] <;> (first | rfl | exact ⟨rfl, rfl⟩ | exact ⟨rfl, rfl, rfl⟩ | skip)
    · rw [hst0, hgo, goOn_next (by rw [hcd]; exact hn)]
      simp only [go_sem, qA, qB, qC, qD, qE, qF, qG, qH, hn, hcg, gt, gt2, hdg, gd, hsg, hw1, ints_getD k.regs s.r.toNat rr, ints_getD k.regs s.b.toNat rb]
      repeat refine K ?_
      apply fin_tup (by simp)
      · repeat' ((first | refine FA 1 1 13 ?_ | refine FA 1 1 14 ?_ | refine FA 1 1 15 ?_ | refine FA 1 1 16 ?_ | refine FA 1 1 17 ?_ | refine FA 1 1 18 ?_ | refine FA 1 1 19 ?_ | refine FA 1 2 13 ?_ | refine FA 1 2 14 ?_ | refine FA 1 2 15 ?_ | refine FA 1 2 16 ?_ | refine FA 1 2 17 ?_ | refine FA 1 2 18 ?_ | refine FA 1 2 19 ?_ | refine FA 0 0 15 ?_ | refine FA 0 0 16 ?_ | refine FA 0 0 17 ?_ | refine FA 0 0 18 ?_ | refine FA 0 0 19 ?_ | fail); simp only [fS, fS2, fS2, qA, qC, cores_set, List.set_set, hdself])
        exact Sub.refl _
      · simp [-List.drop_one, -gD, machineC_setK, setK, machineC, cores_set, hdself, hst, notes_one, notes_append] <;> (first | rfl | exact ⟨rfl, rfl⟩ | exact ⟨rfl, rfl, rfl⟩ | skip)
  by_cases h11 : s.op = 11
  · have ra : s.a.toNat < k.regs.length := by omega
    have hst0 := mstep_of (late := late) hkk hstp hi hst (h9' _) (by simp [isMem, h11])
    simp only [go_sem, qA, qB, qC, qD, qE, qF, qG, qH, h11, h9, hcg, gt, gt2, hdg, gd, hsg, hw1, ints_getD k.regs s.r.toNat rr, ints_getD k.regs s.b.toNat rb, ints_getD k.regs s.a.toNat ra]
    repeat refine K ?_
    by_cases hz : k.regs.getD s.a.toNat 0 = 0
    · have hgo : mdo m i late = goOn m i k s.n := by
        unfold mdo
        rw [hkk, hstp]
        simp only [h11, isMem, alu, nextAt, rg, hz]
        simp
      try simp only [go_sem, qA, qB, qC, qD, qE, qF, qG, qH, h11, hz, hcg, gt, gt2, hdg, gd, hsg, hw1, ints_getD k.regs s.r.toNat rr, ints_getD k.regs s.b.toNat rb, ints_getD k.regs s.a.toNat ra]
      repeat refine K ?_
      by_cases hn : (cd.length : Int) ≤ s.n
      · rw [hst0, hgo, goOn_end (by rw [hcd]; exact hn)]
        simp only [go_sem, qA, qB, qC, qD, qE, qF, qG, qH, hn, hcg, gt, gt2, hdg, gd, hsg, hw1, ints_getD k.regs s.r.toNat rr, ints_getD k.regs s.b.toNat rb, ints_getD k.regs s.a.toNat ra]
        repeat refine K ?_
        apply fin_tup (by simp)
        · repeat' ((first | refine FA 1 1 13 ?_ | refine FA 1 1 14 ?_ | refine FA 1 1 15 ?_ | refine FA 1 1 16 ?_ | refine FA 1 1 17 ?_ | refine FA 1 1 18 ?_ | refine FA 1 1 19 ?_ | refine FA 1 2 13 ?_ | refine FA 1 2 14 ?_ | refine FA 1 2 15 ?_ | refine FA 1 2 16 ?_ | refine FA 1 2 17 ?_ | refine FA 1 2 18 ?_ | refine FA 1 2 19 ?_ | refine FA 0 0 15 ?_ | refine FA 0 0 16 ?_ | refine FA 0 0 17 ?_ | refine FA 0 0 18 ?_ | refine FA 0 0 19 ?_ | fail); simp only [fS, fS2, fS2, qA, qC, cores_set, List.set_set, hdself])
          exact Sub.refl _
        · simp [-List.drop_one, -gD, machineC_setK, setK, machineC, cores_set, hdself, hst, notes_one, notes_append] <;> (first | rfl | exact ⟨rfl, rfl⟩ | exact ⟨rfl, rfl, rfl⟩ | skip)
      · rw [hst0, hgo, goOn_next (by rw [hcd]; exact hn)]
        simp only [go_sem, qA, qB, qC, qD, qE, qF, qG, qH, hn, hcg, gt, gt2, hdg, gd, hsg, hw1, ints_getD k.regs s.r.toNat rr, ints_getD k.regs s.b.toNat rb, ints_getD k.regs s.a.toNat ra]
        repeat refine K ?_
        apply fin_tup (by simp)
        · repeat' ((first | refine FA 1 1 13 ?_ | refine FA 1 1 14 ?_ | refine FA 1 1 15 ?_ | refine FA 1 1 16 ?_ | refine FA 1 1 17 ?_ | refine FA 1 1 18 ?_ | refine FA 1 1 19 ?_ | refine FA 1 2 13 ?_ | refine FA 1 2 14 ?_ | refine FA 1 2 15 ?_ | refine FA 1 2 16 ?_ | refine FA 1 2 17 ?_ | refine FA 1 2 18 ?_ | refine FA 1 2 19 ?_ | refine FA 0 0 15 ?_ | refine FA 0 0 16 ?_ | refine FA 0 0 17 ?_ | refine FA 0 0 18 ?_ | refine FA 0 0 19 ?_ | fail); simp only [fS, fS2, fS2, qA, qC, cores_set, List.set_set, hdself])
          exact Sub.refl _
        · simp [-List.drop_one, -gD, machineC_setK, setK, machineC, cores_set, hdself, hst, notes_one, notes_append] <;> (first | rfl | exact ⟨rfl, rfl⟩ | exact ⟨rfl, rfl, rfl⟩ | skip)
    · have hgo : mdo m i late = goOn m i k (k.at_ + 1) := by
        unfold mdo
        rw [hkk, hstp]
        simp only [h11, isMem, alu, nextAt, rg, hz]
        simp
      try simp only [go_sem, qA, qB, qC, qD, qE, qF, qG, qH, h11, hz, hcg, gt, gt2, hdg, gd, hsg, hw1, ints_getD k.regs s.r.toNat rr, ints_getD k.regs s.b.toNat rb, ints_getD k.regs s.a.toNat ra]
      repeat refine K ?_
      by_cases hn : (cd.length : Int) ≤ k.at_ + 1
      · rw [hst0, hgo, goOn_end (by rw [hcd]; exact hn)]
        simp only [go_sem, qA, qB, qC, qD, qE, qF, qG, qH, hn, hcg, gt, gt2, hdg, gd, hsg, hw1, ints_getD k.regs s.r.toNat rr, ints_getD k.regs s.b.toNat rb, ints_getD k.regs s.a.toNat ra]
        repeat refine K ?_
        apply fin_tup (by simp)
        · repeat' ((first | refine FA 1 1 13 ?_ | refine FA 1 1 14 ?_ | refine FA 1 1 15 ?_ | refine FA 1 1 16 ?_ | refine FA 1 1 17 ?_ | refine FA 1 1 18 ?_ | refine FA 1 1 19 ?_ | refine FA 1 2 13 ?_ | refine FA 1 2 14 ?_ | refine FA 1 2 15 ?_ | refine FA 1 2 16 ?_ | refine FA 1 2 17 ?_ | refine FA 1 2 18 ?_ | refine FA 1 2 19 ?_ | refine FA 0 0 15 ?_ | refine FA 0 0 16 ?_ | refine FA 0 0 17 ?_ | refine FA 0 0 18 ?_ | refine FA 0 0 19 ?_ | fail); simp only [fS, fS2, fS2, qA, qC, cores_set, List.set_set, hdself])
          exact Sub.refl _
        · simp [-List.drop_one, -gD, machineC_setK, setK, machineC, cores_set, hdself, hst, notes_one, notes_append] <;> (first | rfl | exact ⟨rfl, rfl⟩ | exact ⟨rfl, rfl, rfl⟩ | skip)
      · rw [hst0, hgo, goOn_next (by rw [hcd]; exact hn)]
        simp only [go_sem, qA, qB, qC, qD, qE, qF, qG, qH, hn, hcg, gt, gt2, hdg, gd, hsg, hw1, ints_getD k.regs s.r.toNat rr, ints_getD k.regs s.b.toNat rb, ints_getD k.regs s.a.toNat ra]
        repeat refine K ?_
        apply fin_tup (by simp)
        · repeat' ((first | refine FA 1 1 13 ?_ | refine FA 1 1 14 ?_ | refine FA 1 1 15 ?_ | refine FA 1 1 16 ?_ | refine FA 1 1 17 ?_ | refine FA 1 1 18 ?_ | refine FA 1 1 19 ?_ | refine FA 1 2 13 ?_ | refine FA 1 2 14 ?_ | refine FA 1 2 15 ?_ | refine FA 1 2 16 ?_ | refine FA 1 2 17 ?_ | refine FA 1 2 18 ?_ | refine FA 1 2 19 ?_ | refine FA 0 0 15 ?_ | refine FA 0 0 16 ?_ | refine FA 0 0 17 ?_ | refine FA 0 0 18 ?_ | refine FA 0 0 19 ?_ | fail); simp only [fS, fS2, fS2, qA, qC, cores_set, List.set_set, hdself])
          exact Sub.refl _
        · simp [-List.drop_one, -gD, machineC_setK, setK, machineC, cores_set, hdself, hst, notes_one, notes_append] <;> (first | rfl | exact ⟨rfl, rfl⟩ | exact ⟨rfl, rfl, rfl⟩ | skip)
  by_cases h12 : s.op = 12
  · have hst0 := mstep_of (late := late) hkk hstp hi hst (h9' _) (by simp [isMem, h12])
    have hgo : mdo m i late = setK m i ⟨k.at_, k.regs, k.view, 1⟩ := by
      unfold mdo
      simp [hkk, hstp, h12, stop]
    rw [hst0, hgo]
    simp only [go_sem, qA, qB, qC, qD, qE, qF, qG, qH, h12, h9, hcg, gt, gt2, hdg, gd, hsg, hw1, ints_getD k.regs s.r.toNat rr, ints_getD k.regs s.b.toNat rb]
    repeat refine K ?_
    apply fin_tup (by simp)
    · repeat' ((first | refine FA 1 1 13 ?_ | refine FA 1 1 14 ?_ | refine FA 1 1 15 ?_ | refine FA 1 1 16 ?_ | refine FA 1 1 17 ?_ | refine FA 1 1 18 ?_ | refine FA 1 1 19 ?_ | refine FA 1 2 13 ?_ | refine FA 1 2 14 ?_ | refine FA 1 2 15 ?_ | refine FA 1 2 16 ?_ | refine FA 1 2 17 ?_ | refine FA 1 2 18 ?_ | refine FA 1 2 19 ?_ | refine FA 0 0 15 ?_ | refine FA 0 0 16 ?_ | refine FA 0 0 17 ?_ | refine FA 0 0 18 ?_ | refine FA 0 0 19 ?_ | fail); simp only [fS, fS2, fS2, qA, qC, cores_set, List.set_set, hdself])
      exact Sub.refl _
    · simp [-List.drop_one, -gD, machineC_setK, setK, machineC, cores_set, hdself, hst, hgo] <;> (first | rfl | exact ⟨rfl, rfl⟩ | exact ⟨rfl, rfl, rfl⟩ | skip)
  by_cases h13 : s.op = 13
  · have hst0 := mstep_of (late := late) hkk hstp hi hst (h9' _) (by simp [isMem, h13])
    have hgo : mdo m i late = setK m i ⟨k.at_, k.regs, k.view, 2⟩ := by
      unfold mdo
      simp [hkk, hstp, h13, stop]
    rw [hst0, hgo]
    simp only [go_sem, qA, qB, qC, qD, qE, qF, qG, qH, h13, h9, hcg, gt, gt2, hdg, gd, hsg, hw1, ints_getD k.regs s.r.toNat rr, ints_getD k.regs s.b.toNat rb]
    repeat refine K ?_
    apply fin_tup (by simp)
    · repeat' ((first | refine FA 1 1 13 ?_ | refine FA 1 1 14 ?_ | refine FA 1 1 15 ?_ | refine FA 1 1 16 ?_ | refine FA 1 1 17 ?_ | refine FA 1 1 18 ?_ | refine FA 1 1 19 ?_ | refine FA 1 2 13 ?_ | refine FA 1 2 14 ?_ | refine FA 1 2 15 ?_ | refine FA 1 2 16 ?_ | refine FA 1 2 17 ?_ | refine FA 1 2 18 ?_ | refine FA 1 2 19 ?_ | refine FA 0 0 15 ?_ | refine FA 0 0 16 ?_ | refine FA 0 0 17 ?_ | refine FA 0 0 18 ?_ | refine FA 0 0 19 ?_ | fail); simp only [fS, fS2, fS2, qA, qC, cores_set, List.set_set, hdself])
      exact Sub.refl _
    · simp [-List.drop_one, -gD, machineC_setK, setK, machineC, cores_set, hdself, hst, hgo] <;> (first | rfl | exact ⟨rfl, rfl⟩ | exact ⟨rfl, rfl, rfl⟩ | skip)
  have hop : s.op = 5 ∨ s.op = 6 ∨ s.op = 7 ∨ s.op = 8 := by omega
  have hmm : isMem s.op = true := by rcases hop with h | h | h | h <;> simp [isMem, h]
  have hmf := memFull_eq hM hi hmm
  rw [hkk] at hmf
  have hnf : memFull m i s = false := by
    rw [hmf]
    cases hq : (isMem s.op && !decide (s.op = 5) && within (cellOf k s) 0 23 && decide ((4000 : Int) ≤ (m.mem.cells.getD (cellOf k s).toNat []).length)) with
    | false => rfl
    | true =>
      rw [mstep_over (late := late) hkk hstp hi (.inr hq)] at hc
      simp at hc
  have hst0 := mstep_of (late := late) hkk hstp hi hst (h9' _) (by rw [← hmf]; exact hnf)
  have hmd := l8Memory_ok m i late s hM.mem hi (by rw [hkk]; exact e4) (by rw [hkk]; exact e6) hl r0 r1 b0 b1 (by omega) hop hnf
  have hself : m.cores.set i ⟨k.at_, k.regs, k.view, k.st⟩ = m.cores := by rw [← hkk']; exact set_getD_self _ _ _ hi
  simp only [go_sem, qA, qB, qC, qD, qE, qF, qG, qH, h1, h2, h3, h4, h9, h10, h11, h12, h13, hcg, gt, gt2, hdg, gd, hsg, hw1, ints_getD k.regs s.r.toNat rr, ints_getD k.regs s.b.toNat rb]
  repeat refine K ?_
  apply calls_mk
  · refine FA 1 1 13 ?_
    simp only [fS, fS2, fS2, qA, qC, cores_set, List.set_set]
    refine FA 1 2 14 ?_
    simp only [fS, fS2, fS2, qA, qC, hcself, cores_set, List.set_set]
    refine FA 0 0 16 ?_
    simp only [fS, fS2, fS2, qA, qC, hdself]
    exact Sub.refl _
  refine CA [(0, 0), (1, 1), (2, 2), (3, 3)] (hmd) ?_
  try simp only [go_sem, qA, qB, qC, qD, qE, qF, qG, qH]
  repeat refine K ?_
  cases hin : within (cellOf k s) 0 23
  · have hmo : memDo m i s late = (m, false) := by
      unfold memDo
      rw [hkk, hin]
      rfl
    have hgo : mdo m i late = setK m i ⟨k.at_, k.regs, k.view, 2⟩ := by
      unfold mdo
      rw [hkk, hstp]
      simp only [h12, h13, hmm, hin, if_true, if_false, stop, hkk]
      simp
    rw [hmo, hst0, hgo]
    try simp only [go_sem, qA, qB, qC, qD, qE, qF, qG, qH, hin, hcg, gt, gt2, hdg, gd, hsg, hw1, ints_getD k.regs s.r.toNat rr, ints_getD k.regs s.b.toNat rb]
    repeat refine K ?_
    apply fin_tup (by simp)
    · repeat' ((first | refine FA 19 1 20 ?_ | refine FA 19 1 21 ?_ | refine FA 19 1 22 ?_ | refine FA 19 1 23 ?_ | refine FA 19 1 24 ?_ | refine FA 19 1 25 ?_ | fail); simp only [fS, fS2, fS2, qA, qC, cores_set, List.set_set, hdself, hself])
      exact Sub.refl _
    · simp [-List.drop_one, -gD, machineC_setK, setK, machineC, cores_set, hdself, hst, hgo] <;> (first | rfl | exact ⟨rfl, rfl⟩ | exact ⟨rfl, rfl, rfl⟩ | skip)
  obtain ⟨c, hcc⟩ := Int.eq_ofNat_of_zero_le (within_iff.1 hin).1
  have hgo : mdo m i late = goOn ⟨m.codes, m.cores, ⟨(access m.mem.cells k s c late).1⟩, m.tr⟩ i (access m.mem.cells k s c late).2 (k.at_ + 1) := by
    unfold mdo
    rw [hkk, hstp]
    rw [hcc] at hin
    simp only [h12, h13, hmm, hcc, hin, if_true, if_false, Int.toNat_natCast]
  have hmo : memDo m i s late = (⟨m.codes, m.cores.set i (access m.mem.cells k s c late).2, ⟨(access m.mem.cells k s c late).1⟩, m.tr⟩, true) := by
    unfold memDo
    rw [hkk, hin, hcc]
    rfl
  rw [hmo]
  generalize hacc : access m.mem.cells k s c late = r at *
  have hcg2 := cores_getD .own (m.cores.set i r.2) i (by rw [List.length_set]; exact hi)
  rw [getD_set_self _ _ _ _ hi] at hcg2
  try simp only [go_sem, qA, qB, qC, qD, qE, qF, qG, qH, hcg2, hcg, gt, gt2, hdg, gd, hsg, hw1, ints_getD k.regs s.r.toNat rr, ints_getD k.regs s.b.toNat rb]
  repeat refine K ?_
  by_cases hn : (cd.length : Int) ≤ k.at_ + 1
  · rw [hst0, hgo, goOn_end (m := ⟨m.codes, m.cores, ⟨r.1⟩, m.tr⟩) (show _ by simp only [hcd]; exact hn)]
    simp only [go_sem, qA, qB, qC, qD, qE, qF, qG, qH, hn, hcg2, hcg, gt, gt2, hdg, gd, hsg, hw1, ints_getD k.regs s.r.toNat rr, ints_getD k.regs s.b.toNat rb]
    repeat refine K ?_
    apply fin_tup (by simp)
    · repeat' ((first | refine FA 18 0 22 ?_ | refine FA 18 0 23 ?_ | refine FA 18 0 24 ?_ | refine FA 18 0 25 ?_ | fail); simp only [fS, fS2, fS2, qA, qC, cores_set, List.set_set, hdself])
      exact Sub.refl _
    · simp [-List.drop_one, -gD, machineC_setK, setK, machineC, cores_set, hdself, hst, notes_one, notes_append, List.set_set] <;> (first | rfl | exact ⟨rfl, rfl⟩ | exact ⟨rfl, rfl, rfl⟩ | skip)
  · rw [hst0, hgo, goOn_next (m := ⟨m.codes, m.cores, ⟨r.1⟩, m.tr⟩) (show _ by simp only [hcd]; exact hn)]
    simp only [go_sem, qA, qB, qC, qD, qE, qF, qG, qH, hn, hcg2, hcg, gt, gt2, hdg, gd, hsg, hw1, ints_getD k.regs s.r.toNat rr, ints_getD k.regs s.b.toNat rb]
    repeat refine K ?_
    apply fin_tup (by simp)
    · repeat' ((first | refine FA 18 0 22 ?_ | refine FA 18 0 23 ?_ | refine FA 18 0 24 ?_ | refine FA 18 0 25 ?_ | fail); simp only [fS, fS2, fS2, qA, qC, cores_set, List.set_set, hdself])
      exact Sub.refl _
    · simp [-List.drop_one, -gD, machineC_setK, setK, machineC, cores_set, hdself, hst, notes_one, notes_append, List.set_set] <;> (first | rfl | exact ⟨rfl, rfl⟩ | exact ⟨rfl, rfl, rfl⟩ | skip)
set_option maxHeartbeats 8000000 in
theorem l8StepB_ok (m : Machine) (i : Nat) (late : Int) (hM : MOk m) (hi : i < m.cores.length) (hst : (coreAt m i).st = 0) (hc : (mstep m ⟨i, late⟩).2 ≠ 0) (hl : -(2 ^ 63) ≤ late ∧ late < 2 ^ 63) :
    CallOk Tryz.prog num 357 [mchV m, .agg (pickC ⟨i, late⟩)] (mchK m) (.tup [mchV m, .int .i64 3]) := by
  refine enterK (m := m357) (f := 357) (fn := Tryz.f56) Tryz.func56 (by kernel_rfl) rfl c357 rfl (by simp [Tryz.f56]) (by simp [bnds, bnd, nf_sl, nf_int, nf_bool, nf_str, ints_bnd]) (mchK_hb m) ?_
  unfold m357
  have n4 := hM.n4
  have hcl := hM.cores
  have hj : i < m.codes.length := by omega
  have hK := hM.core i hi
  have e1 := hK.at0
  have e2 := hK.at1
  have e4 := hK.regs
  have e6 := hK.view
  have hso := stepAt_ok hM hi
  have hcg := cores_getD .own m.cores i hi
  have gt : ∀ r, ((cores .own m.cores).set i r).getD i [] = r := fun r => getD_set_self _ _ _ _ (by rw [cores_length]; exact hi)
  have gt2 : ∀ k r, ((cores .own (m.cores.set i k)).set i r).getD i [] = r := fun k r => getD_set_self _ _ _ _ (by rw [cores_length, List.length_set]; exact hi)
  have hdg := codes_getD .own m.codes i hj
  have gd : ∀ r, ((codes .own m.codes).set i r).getD i [] = r := fun r => getD_set_self _ _ _ _ (by rw [codes_length]; exact hj)
  have hdself : (codes .own m.codes).set i [.sl .own 5 (steps (m.codes.getD i []))] = codes .own m.codes := by rw [← hdg, set_getD_self _ _ _ (by rw [codes_length]; exact hj)]
  have hcself : (cores .own m.cores).set i [.int .i64 (coreAt m i).at_, .sl .own 1 (ints (coreAt m i).regs), .sl .own 1 (ints (coreAt m i).view), .int .i64 (coreAt m i).st] = cores .own m.cores := by rw [show coreAt m i = m.cores.getD i default from rfl, ← hcg, set_getD_self _ _ _ (by rw [cores_length]; exact hi)]
  have hsg := steps_getD (m.codes.getD i []) (coreAt m i).at_.toNat (by omega)
  have hl800 : (m.codes.getD i []).length ≤ 800 := by
    have := hK.code
    unfold codeOk at this
    simp only [Bool.and_eq_true, within_iff] at this
    omega
  generalize hkk : coreAt m i = k at *
  have hkk' : m.cores.getD i default = k := hkk
  rw [hkk'] at hcg
  have hss : (m.codes.getD i []).getD k.at_.toNat default = stepAt m i := by rw [← hkk]; rfl
  rw [hss] at hsg
  generalize hstp : stepAt m i = s at *
  generalize hcd : m.codes.getD i [] = cd at *
  have hw1 : IntKind.i64.wrap (k.at_ + 1) = k.at_ + 1 := wrap64 (by omega) (by omega)
  obtain ⟨r0, r1, b0, b1, op1, op13, a7⟩ := stepOk_ranges hso
  have rr : s.r.toNat < k.regs.length := by omega
  have rb : s.b.toNat < k.regs.length := by omega
  have hself : m.cores.set i ⟨k.at_, k.regs, k.view, k.st⟩ = m.cores := by rw [← hkk']; exact set_getD_self _ _ _ hi
  simp only [go_sem, qA, qB, qC, qD, qE, qF, qG, qH, mchV, mchK, hcg, gt, gt2, hdg, gd, hsg, hw1, ints_getD k.regs s.r.toNat rr, ints_getD k.regs s.b.toNat rb]
  repeat refine K ?_
  by_cases h9 : s.op = 9
  · have htr : (m.tr.length : Int) = 4000 := by
      apply Decidable.byContradiction
      intro e
      rw [mstep_of (late := late) hkk hstp hi hst (fun h => e h.2) (by simp [isMem, h9])] at hc
      exact hc rfl
    simp only [go_sem, qA, qB, qC, qD, qE, qF, qG, qH, h9, htr, hcg, gt, gt2, hdg, gd, hsg, hw1, ints_getD k.regs s.r.toNat rr, ints_getD k.regs s.b.toNat rb]
    repeat refine K ?_
    apply finK_tup (by simp)
    · repeat' ((first | refine FA 1 1 13 ?_ | refine FA 1 1 14 ?_ | refine FA 1 1 15 ?_ | refine FA 1 1 16 ?_ | refine FA 1 1 17 ?_ | refine FA 1 1 18 ?_ | refine FA 1 1 19 ?_ | refine FA 1 2 13 ?_ | refine FA 1 2 14 ?_ | refine FA 1 2 15 ?_ | refine FA 1 2 16 ?_ | refine FA 1 2 17 ?_ | refine FA 1 2 18 ?_ | refine FA 1 2 19 ?_ | refine FA 0 0 15 ?_ | refine FA 0 0 16 ?_ | refine FA 0 0 17 ?_ | refine FA 0 0 18 ?_ | refine FA 0 0 19 ?_ | fail); simp only [fS, fS2, fS2, qA, qC, cores_set, List.set_set, hdself, hself, hcself])
      exact Sub.refl _
    · simp [-List.drop_one, -gD, machineC_setK, setK, machineC, cores_set, hdself, hst, hself] <;> (first | rfl | exact ⟨rfl, rfl⟩ | exact ⟨rfl, rfl, rfl⟩ | skip)
  have h9' : ∀ P : Prop, ¬ (s.op = 9 ∧ P) := fun P e => h9 e.1
  have hfull : (isMem s.op && !decide (s.op = 5) && within (cellOf k s) 0 23 && decide ((4000 : Int) ≤ (m.mem.cells.getD (cellOf k s).toNat []).length)) = true := by
    cases hq : (isMem s.op && !decide (s.op = 5) && within (cellOf k s) 0 23 && decide ((4000 : Int) ≤ (m.mem.cells.getD (cellOf k s).toNat []).length)) with
    | true => rfl
    | false =>
      rw [mstep_of (late := late) hkk hstp hi hst (h9' _) hq] at hc
      exact absurd rfl hc
  have hmm : isMem s.op = true := by
    simp only [Bool.and_eq_true] at hfull
    exact hfull.1.1.1
  have hop : s.op = 5 ∨ s.op = 6 ∨ s.op = 7 ∨ s.op = 8 := by
    simp only [isMem, Bool.or_eq_true, decide_eq_true_eq] at hmm
    omega
  have hmf := memFull_eq hM hi hmm
  rw [hkk, hfull] at hmf
  have hmd := l8MemoryFull_ok m i late s hM.mem hi (by rw [hkk]; exact e4) (by rw [hkk]; exact e6) hl r0 r1 b0 b1 (by omega) hop hmf
  have h1 : ¬ s.op = 1 := by omega
  have h2 : ¬ s.op = 2 := by omega
  have h3 : ¬ s.op = 3 := by omega
  have h4 : ¬ s.op = 4 := by omega
  have h10 : ¬ s.op = 10 := by omega
  have h11 : ¬ s.op = 11 := by omega
  have h12 : ¬ s.op = 12 := by omega
  have h13 : ¬ s.op = 13 := by omega
  simp only [go_sem, qA, qB, qC, qD, qE, qF, qG, qH, h1, h2, h3, h4, h9, h10, h11, h12, h13, hcg, gt, gt2, hdg, gd, hsg, hw1, ints_getD k.regs s.r.toNat rr, ints_getD k.regs s.b.toNat rb]
  repeat refine K ?_
  apply calls_mk
  · refine FA 1 1 13 ?_
    simp only [fS, fS2, fS2, qA, qC, cores_set, List.set_set]
    refine FA 1 2 14 ?_
    simp only [fS, fS2, fS2, qA, qC, hcself, cores_set, List.set_set]
    refine FA 0 0 16 ?_
    simp only [fS, fS2, fS2, qA, qC, hdself]
    exact Sub.refl _
  refine CA [(0, 0), (1, 1), (2, 2), (3, 3)] (hmd) ?_
  try simp only [go_sem, qA, qB, qC, qD, qE, qF, qG, qH]
  repeat refine K ?_
  try simp only [go_sem, qA, qB, qC, qD, qE, qF, qG, qH, hcg, gt, gt2, hdg, gd, hsg, hw1, ints_getD k.regs s.r.toNat rr, ints_getD k.regs s.b.toNat rb]
  repeat refine K ?_
  apply finK_tup (by simp)
  · repeat' ((first | refine FA 1 1 13 ?_ | refine FA 1 1 14 ?_ | refine FA 1 1 15 ?_ | refine FA 1 1 16 ?_ | refine FA 1 1 17 ?_ | refine FA 1 1 18 ?_ | refine FA 1 1 19 ?_ | refine FA 1 2 13 ?_ | refine FA 1 2 14 ?_ | refine FA 1 2 15 ?_ | refine FA 1 2 16 ?_ | refine FA 1 2 17 ?_ | refine FA 1 2 18 ?_ | refine FA 1 2 19 ?_ | refine FA 0 0 15 ?_ | refine FA 0 0 16 ?_ | refine FA 0 0 17 ?_ | refine FA 0 0 18 ?_ | refine FA 0 0 19 ?_ | fail); simp only [fS, fS2, fS2, qA, qC, cores_set, List.set_set, hdself, hself, hcself])
    exact Sub.refl _
  · simp [-List.drop_one, -gD, machineC_setK, setK, machineC, cores_set, hdself, hst, hself] <;> (first | rfl | exact ⟨rfl, rfl⟩ | exact ⟨rfl, rfl, rfl⟩ | skip)

end Go.Sep
