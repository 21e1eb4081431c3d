/- Contracts of functions. -/
import Derived.Test.YtoijhndfkfliiaaCone
import Derived.Test.YtoijhndfkfliiaaConf
namespace Go.Sep
open Go.Proofs
set_option linter.unusedSimpArgs false
set_option linter.unusedVariables false
set_option maxRecDepth 100000
def m43 : MFn := ⟨156, [.t 6], .seq (xr [xo 3 (.box (.t 0)), xo 6 (.mv (xi 0))]) (.seq (xr [xo 12 (.load 2 true (.t 3)), xv 13 1, xv 14 2, xo 15 (.call 41 [false, false, false] [.t 12, .t 13, .t 14]), xv 7 15]) (.seq (.seq (xr [xv 16 7, xo 17 (.bin .neq (.t 16) (xi 0))]) (.cond 17 (.seq (xr [xv 18 7, xv 6 18]) (.ret)) (.skip))) (.seq (xr [xv 19 1, xo 20 (.nilck (.t 19)), xo 21 (.fad 0 (.t 20)), xo 22 (.load 1 false (.t 21)), xv 23 2, xo 24 (.iad 3 (.t 22) (.t 23)), xv 8 24]) (.seq (.dreg (.take 0 (xo 25 (.fad 1 (.t 3))) (.take 1 (xo 26 (.load 1 false (.t 25))) (.take 2 (xv 27 2) (.take 3 (xo 28 (.iad 1 (.t 26) (.t 27))) (.take 4 (xo 29 (.load 1 false (.t 28))) (.take 5 (xv 30 8) (.take 6 (xo 31 (.nilck (.t 30))) (.take 7 (xo 32 (.fad 0 (.t 31))) (.take 8 (xo 33 (.load 1 false (.t 32))) (.take 9 (xo 34 (.iad 5 (.t 29) (.t 33))) (.take 10 (xo 35 (.load 5 true (.t 34))) (.only 11 [] (xo 9 (.alloc [xz, xz, xz, xz, xz])) (.only 12 [0, 1, 2, 3, 4, 5, 6, 7, 8, 9, 10] ⟨none, .store 5 (.t 9) (.t 35), none⟩ (.done))))))))))))))) (.seq (xr [xv 36 8, xo 37 (.nilck (.t 36)), xo 38 (.fad 0 (.t 37)), xo 39 (.load 1 false (.t 38)), xo 40 (.bin .add (.t 39) (xi 1)), xv 10 40]) (.seq (xr [xo 11 (.mv (.c (.bool true)))]) (.seq (.seq (xr [xo 41 (.fad 0 (.t 9)), xo 42 (.load 1 false (.t 41))]) (.blk 0 (.seq (xr [xo 54 (.bin .eql (.t 42) (xi 1)), xv 53 54]) (.cond 53 (.dreg (.take 0 (xv 55 8) (.take 1 (xo 56 (.nilck (.t 55))) (.take 2 (xo 57 (.fad 1 (.t 56))) (.take 3 (xo 58 (.load 1 false (.t 57))) (.take 4 (xo 59 (.fad 1 (.t 9))) (.take 5 (xo 60 (.load 1 false (.t 59))) (.only 6 [] (xo 61 (.fad 4 (.t 9))) (.only 7 [] (xo 62 (.load 1 false (.t 61))) (.only 8 [0, 1, 2, 3, 4, 5] (xo 63 (.iad 1 (.t 58) (.t 60))) (.only 9 [0, 1, 2, 3, 4, 5] ⟨none, .store 1 (.t 63) (.t 62), none⟩ (.done)))))))))))) (.seq (.seq (xr [xo 65 (.bin .eql (.t 42) (xi 2)), xv 64 65]) (.cond 64 (.skip) (.seq (xr [xo 66 (.bin .eql (.t 42) (xi 3)), xv 64 66]) (.cond 64 (.skip) (xr [xo 67 (.bin .eql (.t 42) (xi 4)), xv 64 67]))))) (.cond 64 (.dreg (.take 0 (xv 68 8) (.take 1 (xo 69 (.nilck (.t 68))) (.take 2 (xo 70 (.fad 1 (.t 69))) (.take 3 (xo 71 (.load 1 false (.t 70))) (.take 4 (xo 72 (.fad 1 (.t 9))) (.take 5 (xo 73 (.load 1 false (.t 72))) (.take 6 (xo 74 (.fad 0 (.t 9))) (.take 7 (xo 75 (.load 1 false (.t 74))) (.take 8 (xv 76 8) (.take 9 (xo 77 (.nilck (.t 76))) (.take 10 (xo 78 (.fad 1 (.t 77))) (.take 11 (xo 79 (.load 1 false (.t 78))) (.take 12 (xo 80 (.fad 2 (.t 9))) (.take 13 (xo 81 (.load 1 false (.t 80))) (.take 14 (xo 82 (.iad 1 (.t 79) (.t 81))) (.take 15 (xo 83 (.load 1 false (.t 82))) (.take 16 (xv 84 8) (.take 17 (xo 85 (.nilck (.t 84))) (.take 18 (xo 86 (.fad 1 (.t 85))) (.take 19 (xo 87 (.load 1 false (.t 86))) (.only 20 [] (xo 88 (.fad 3 (.t 9))) (.only 21 [] (xo 89 (.load 1 false (.t 88))) (.only 22 [19] (xo 90 (.iad 1 (.t 87) (.t 89))) (.only 23 [] (xo 91 (.load 1 false (.t 90))) (.only 24 [7, 15] (xo 92 (.call 60 [false, false, false] [.t 75, .t 83, .t 91])) (.only 25 [0, 1, 2, 3, 4, 5, 6, 7, 8, 9, 10, 11, 12, 13, 14, 15, 16, 17, 18, 19] (xo 93 (.iad 1 (.t 71) (.t 73))) (.only 26 [0, 1, 2, 3, 4, 5, 6, 7, 8, 9, 10, 11, 12, 13, 14, 15, 16, 17, 18, 19] ⟨none, .store 1 (.t 93) (.t 92), none⟩ (.done))))))))))))))))))))))))))))) (.seq (xr [xo 95 (.bin .eql (.t 42) (xi 10)), xv 94 95]) (.cond 94 (.dreg (.take 0 (xv 96 1) (.take 1 (xv 97 1) (.take 2 (xo 98 (.nilck (.t 97))) (.take 3 (xo 99 (.fad 2 (.t 98))) (.take 4 (xo 100 (.load 1 false (.t 99))) (.take 5 (xv 101 2) (.take 6 (xv 102 8) (.take 7 (xo 103 (.nilck (.t 102))) (.take 8 (xo 104 (.fad 1 (.t 103))) (.take 9 (xo 105 (.load 1 false (.t 104))) (.only 10 [] (xo 106 (.fad 2 (.t 9))) (.only 11 [] (xo 107 (.load 1 false (.t 106))) (.only 12 [9] (xo 108 (.iad 1 (.t 105) (.t 107))) (.only 13 [] (xo 109 (.load 1 false (.t 108))) (.only 14 [5] (xo 110 (.build [xz, xz] [(0, 1, .t 101), (1, 1, .t 109)])) (.only 15 [] (xo 111 (.mkSl [xz, xz] 1 [(0, .t 110)])) (.only 16 [4] (xo 112 (.app 2 16 (.t 100) (.t 111))) (.only 17 [0, 1, 2, 3, 4, 5, 6, 7, 8, 9] (xo 113 (.nilck (.t 96))) (.only 18 [0, 1, 2, 3, 4, 5, 6, 7, 8, 9] (xo 114 (.fad 2 (.t 113))) (.only 19 [0, 1, 2, 3, 4, 5, 6, 7, 8, 9] ⟨none, .store 1 (.t 114) (.t 112), none⟩ (.done)))))))))))))))))))))) (.seq (xr [xo 116 (.bin .eql (.t 42) (xi 11)), xv 115 116]) (.cond 115 (xr [xo 117 (.fad 4 (.t 9)), xo 118 (.load 1 false (.t 117)), xv 10 118]) (.seq (xr [xo 120 (.bin .eql (.t 42) (xi 12)), xv 119 120]) (.cond 119 (.seq (.dreg (.take 0 (xv 121 8) (.take 1 (xo 122 (.nilck (.t 121))) (.take 2 (xo 123 (.fad 1 (.t 122))) (.take 3 (xo 124 (.load 1 false (.t 123))) (.only 4 [] (xo 125 (.fad 2 (.t 9))) (.only 5 [] (xo 126 (.load 1 false (.t 125))) (.only 6 [3] (xo 127 (.iad 1 (.t 124) (.t 126))) (.only 7 [] (xo 128 (.load 1 false (.t 127))) (.only 8 [] (xo 129 (.bin .eql (.t 128) (xi 0))) (.done))))))))))) (.cond 129 (xr [xo 130 (.fad 4 (.t 9)), xo 131 (.load 1 false (.t 130)), xv 10 131]) (.skip))) (.seq (xr [xo 133 (.bin .eql (.t 42) (xi 13)), xv 132 133]) (.cond 132 (.seq (xr [xv 134 8, xo 135 (.nilck (.t 134)), xo 136 (.fad 2 (.t 135)), ⟨none, .store 1 (.t 136) (xi 1), none⟩]) (.seq (xr [xo 6 (.mv (xi 0))]) (.ret))) (.dreg (.take 0 (xv 43 8) (.take 1 (xv 44 1) (.take 2 (xo 45 (.nilck (.t 44))) (.take 3 (xo 46 (.fad 1 (.t 45))) (.take 4 (xo 47 (.load 1 false (.t 46))) (.take 5 (xo 48 (.fad 4 (.t 9))) (.take 6 (xo 49 (.load 1 false (.t 48))) (.take 7 (xo 50 (.iad 3 (.t 47) (.t 49))) (.only 8 [] (xo 51 (.load 5 true (.t 9))) (.only 9 [0, 7] (xo 52 (.call 61 [true, true, false] [.t 43, .t 50, .t 51])) (.only 10 [0, 1, 2, 3, 4, 5, 6, 7] (xv 11 52) (.done))))))))))))))))))))))))))) (.seq (.seq (xr [xv 137 11, xo 138 (.un .«not» (.t 137)), xv 139 138, xg 140 (.mv (.t 10)) 139 false, xg 141 (.fad 1 (.t 3)) 139 false, xg 142 (.load 1 false (.t 141)) 139 false, xg 143 (.mv (.t 2)) 139 false, xg 144 (.iad 1 (.t 142) (.t 143)) 139 false, xg 145 (.load 1 false (.t 144)) 139 false, xg 146 (.len (.t 145)) 139 false, xg 147 (.bin .geq (.t 140) (.t 146)) 139 false, xo 148 (.pick (.t 139) (.c (.bool true)) (.t 147))]) (.cond 148 (.seq (xr [xv 149 8, xo 150 (.nilck (.t 149)), xo 151 (.fad 2 (.t 150)), ⟨none, .store 1 (.t 151) (xi 2), none⟩]) (.seq (xr [xo 6 (.mv (xi 0))]) (.ret))) (.skip))) (.seq (xr [xv 152 8, xv 153 10, xo 154 (.nilck (.t 152)), xo 155 (.fad 0 (.t 154)), ⟨none, .store 1 (.t 155) (.t 153), none⟩]) (.seq (xr [xo 6 (.mv (xi 0))]) (.ret)))))))))))⟩
theorem c43 : chkC Try.prog num Try.f99.ntmps m43.body ((Try.f99.body).getD .skip) = true := by kernel_rfl
open Nat renaming reduceAdd → qA, reduceMul → qB, reduceEqDiff → qC, reduceBEq → qD
open Int renaming reduceToNat → qE, reduceEq → qF, reduceLT → qG, reduceLE → qH
open List renaming getD_eq_getElem?_getD → gD

/-- A step of a thread. -/
def goTo (p : Prog) (s : Source) (i : Nat) (t : Thread) (ok : Bool) (next : Int) : Source :=
  if ok = false ∨ ((p.bods.getD i []).length : Int) ≤ next then ⟨s.ths.set i ⟨t.at_, t.regs, 2⟩, s.chs, s.tr⟩ else ⟨s.ths.set i ⟨next, t.regs, t.st⟩, s.chs, s.tr⟩
def doStep (p : Prog) (s : Source) (i : Nat) : Source :=
  if (ins p s i).op = 1 then goTo p s i (setReg (s.ths.getD i default) (ins p s i).r (ins p s i).n) true ((s.ths.getD i default).at_ + 1)
  else if (ins p s i).op = 2 ∨ (ins p s i).op = 3 ∨ (ins p s i).op = 4 then
    goTo p s i (setReg (s.ths.getD i default) (ins p s i).r (compute (ins p s i).op (reg (s.ths.getD i default) (ins p s i).a) (reg (s.ths.getD i default) (ins p s i).b))) true ((s.ths.getD i default).at_ + 1)
  else if (ins p s i).op = 10 then goTo p ⟨s.ths, s.chs, s.tr ++ [⟨i, reg (s.ths.getD i default) (ins p s i).a⟩]⟩ i (s.ths.getD i default) true ((s.ths.getD i default).at_ + 1)
  else if (ins p s i).op = 11 then goTo p s i (s.ths.getD i default) true (ins p s i).n
  else if (ins p s i).op = 12 then goTo p s i (s.ths.getD i default) true (if reg (s.ths.getD i default) (ins p s i).a = 0 then (ins p s i).n else (s.ths.getD i default).at_ + 1)
  else if (ins p s i).op = 13 then ⟨s.ths.set i ⟨(s.ths.getD i default).at_, (s.ths.getD i default).regs, 1⟩, s.chs, s.tr⟩
  else goTo p ⟨s.ths, s.chs.set (ins p s i).n.toNat (chanStep (s.ths.getD i default) (s.chs.getD (ins p s i).n.toNat default) (ins p s i)).2.1, s.tr⟩ i
    (chanStep (s.ths.getD i default) (s.chs.getD (ins p s i).n.toNat default) (ins p s i)).1 (chanStep (s.ths.getD i default) (s.chs.getD (ins p s i).n.toNat default) (ins p s i)).2.2 ((s.ths.getD i default).at_ + 1)

def sourceStep (p : Prog) (s : Source) (who : Int) : Source × Int := if sourceCode p s who = 0 then (doStep p s who.toNat, 0) else (s, sourceCode p s who)

theorem code_in {p : Prog} {s : Source} {who : Int} (h : sourceCode p s who = 0) : 0 ≤ who ∧ who.toNat < s.ths.length := by
  unfold sourceCode at h
  split at h
  · simp at h
  · rename_i hw
    simp only [Bool.not_eq_false, within_iff] at hw
    omega

set_option maxHeartbeats 4000000 in
theorem sourceStep_ok (p : Prog) (s : Source) (who : Int) (hp : SmallP p) (hs : Small s) (h : sourceOk p s = true) (htr : s.tr.length ≤ 4000) : CallOk Try.prog num 43 [.agg (progC .bw p), .ptr 0 0 0, .int .i64 who] [(0, some (3, [sourceC .own s]), some (3, [sourceC .own (sourceStep p s who).1]))] (.int .i64 (sourceStep p s who).2) := by
  have hsc := hs
  obtain ⟨hs1, hs2, hs3, hs4, hs5⟩ := hs
  refine enter (m := m43) (f := 43) (fn := Try.f99) Try.func99 (by kernel_rfl) rfl c43 rfl (by simp [Try.f99]) (by simp [bnds, bnd, nf_sl, nf_int, nf_bool, nf_str, ints_bnd]) (by first | (simp [preH, hb_nil, hb_cons, ints_bnd]; done) | exact hb_cons _ _ _ _ ((hb_nil _).2 trivial) (by decide) (by simp [ints_bnd, bndr, bnds, bnd])) ?_
  unfold m43
  simp only [go_sem, qA, qB, qC, qD, qE, qF, qG, qH]
  repeat refine K ?_
  refine CA [] (sourceCode_ok p s who hp hsc h) ?_
  try simp only [go_sem, qA, qB, qC, qD, qE, qF, qG, qH]
  repeat refine K ?_
  by_cases hcode : sourceCode p s who = 0
  case neg =>
    simp only [go_sem, qA, qB, qC, qD, qE, qF, qG, qH, hcode]
    repeat refine K ?_
    refine ⟨_, Sub.refl _, ?_⟩; simp [FinS, nilL, nilV, oneOr, -List.drop_one]
    simp [sourceStep, hcode]
  obtain ⟨w0, w1⟩ := code_in hcode
  obtain ⟨i, rfl⟩ := Int.eq_ofNat_of_zero_le w0
  rw [Int.toNat_natCast] at w1
  have ha := at_of h (i := i) w1
  have e1 := ha.at0
  have e2 := ha.at1
  have e3 := ha.hb
  have e4 := ha.regs
  have e5 := ha.len
  have r0 := ha.r0
  have r1 := ha.r1
  have a0 := ha.a0
  have a1 := ha.a1
  have b0 := ha.b0
  have b1 := ha.b1
  have hx : (p.bods.getD i []).getD (s.ths.getD i default).at_.toNat default = ins p s i := rfl
  have gt : ∀ r, ((threads .own s.ths).set i r).getD i [] = r := fun r => getD_set_self _ _ _ _ (by rw [threads_length]; exact w1)
  have ra : (ins p s i).a.toNat < (s.ths.getD i default).regs.length := by omega
  have rr : (ins p s i).r.toNat < (s.ths.getD i default).regs.length := by omega
  have rb : (ins p s i).b.toNat < (s.ths.getD i default).regs.length := by omega
  have hw1 : IntKind.i64.wrap ((s.ths.getD i default).at_ + 1) = (s.ths.getD i default).at_ + 1 := wrap64 (by omega) (by omega)
  simp only [go_sem, qA, qB, qC, qD, qE, qF, qG, qH, hcode, gt, threads_getD .own s.ths i w1, bodies_getD .bw p.bods i ha.hb, Int.toNat_natCast, ints_getD (s.ths.getD i default).regs (ins p s i).r.toNat rr, ints_getD (s.ths.getD i default).regs (ins p s i).a.toNat ra, ints_getD (s.ths.getD i default).regs (ins p s i).b.toNat rb, hw1, inss_getD (p.bods.getD i []) (s.ths.getD i default).at_.toNat ha.at1, hx]
  repeat refine K ?_
  by_cases h1 : (ins p s i).op = 1
  · simp only [go_sem, qA, qB, qC, qD, qE, qF, qG, qH, h1, gt, threads_getD .own s.ths i w1, bodies_getD .bw p.bods i ha.hb, Int.toNat_natCast, ints_getD (s.ths.getD i default).regs (ins p s i).r.toNat rr, ints_getD (s.ths.getD i default).regs (ins p s i).a.toNat ra, ints_getD (s.ths.getD i default).regs (ins p s i).b.toNat rb, hw1]
    repeat refine K ?_
    by_cases hn : ((p.bods.getD i []).length : Int) ≤ (s.ths.getD i default).at_ + 1
    · simp only [go_sem, qA, qB, qC, qD, qE, qF, qG, qH, hn, gt, threads_getD .own s.ths i w1, bodies_getD .bw p.bods i ha.hb, Int.toNat_natCast, ints_getD (s.ths.getD i default).regs (ins p s i).r.toNat rr, ints_getD (s.ths.getD i default).regs (ins p s i).a.toNat ra, ints_getD (s.ths.getD i default).regs (ins p s i).b.toNat rb, hw1]
      repeat refine K ?_
      apply fin_one
      · refine Sub.trans (Sub.foldAt 11 1 13 rfl (by simp [-gD] <;> omega) rfl (by decide) (by decide) rfl (by simp <;> omega)) ?_
        simp only [fS, qA, qC, threads_set]
        refine Sub.trans (Sub.fold1 0 0 11 rfl (by simp [-gD] <;> omega) rfl (by decide) (by decide) rfl) ?_
        simp only [fS, qA, qC, threads_set]
        exact Sub.refl _
      · simp [-List.drop_one, -gD, threads_set, sourceStep, doStep, goTo, setReg, reg, hcode, hn, h1] <;> (first | rfl | exact ⟨rfl, rfl⟩ | exact ⟨rfl, rfl, rfl⟩ | skip)
    · simp only [go_sem, qA, qB, qC, qD, qE, qF, qG, qH, hn, gt, threads_getD .own s.ths i w1, bodies_getD .bw p.bods i ha.hb, Int.toNat_natCast, ints_getD (s.ths.getD i default).regs (ins p s i).r.toNat rr, ints_getD (s.ths.getD i default).regs (ins p s i).a.toNat ra, ints_getD (s.ths.getD i default).regs (ins p s i).b.toNat rb, hw1]
      repeat refine K ?_
      apply fin_one
      · refine Sub.trans (Sub.foldAt 11 1 13 rfl (by simp [-gD] <;> omega) rfl (by decide) (by decide) rfl (by simp <;> omega)) ?_
        simp only [fS, qA, qC, threads_set]
        refine Sub.trans (Sub.fold1 0 0 11 rfl (by simp [-gD] <;> omega) rfl (by decide) (by decide) rfl) ?_
        simp only [fS, qA, qC, threads_set]
        exact Sub.refl _
      · simp [-List.drop_one, -gD, threads_set, sourceStep, doStep, goTo, setReg, reg, hcode, hn, h1] <;> (first | rfl | exact ⟨rfl, rfl⟩ | exact ⟨rfl, rfl, rfl⟩ | skip)
  by_cases h2 : (ins p s i).op = 2
  · simp only [go_sem, qA, qB, qC, qD, qE, qF, qG, qH, h2, gt, threads_getD .own s.ths i w1, bodies_getD .bw p.bods i ha.hb, Int.toNat_natCast, ints_getD (s.ths.getD i default).regs (ins p s i).r.toNat rr, ints_getD (s.ths.getD i default).regs (ins p s i).a.toNat ra, ints_getD (s.ths.getD i default).regs (ins p s i).b.toNat rb, hw1]
    repeat refine K ?_
    refine DA [] (compute_ok 2 ((s.ths.getD i default).regs.getD (ins p s i).a.toNat 0) ((s.ths.getD i default).regs.getD (ins p s i).b.toNat 0)) ?_
    try simp only [go_sem, qA, qB, qC, qD, qE, qF, qG, qH]
    repeat refine K ?_
    simp only [go_sem, qA, qB, qC, qD, qE, qF, qG, qH, h2, gt, threads_getD .own s.ths i w1, bodies_getD .bw p.bods i ha.hb, Int.toNat_natCast, ints_getD (s.ths.getD i default).regs (ins p s i).r.toNat rr, ints_getD (s.ths.getD i default).regs (ins p s i).a.toNat ra, ints_getD (s.ths.getD i default).regs (ins p s i).b.toNat rb, hw1]
    repeat refine K ?_
    by_cases hn : ((p.bods.getD i []).length : Int) ≤ (s.ths.getD i default).at_ + 1
    · simp only [go_sem, qA, qB, qC, qD, qE, qF, qG, qH, hn, gt, threads_getD .own s.ths i w1, bodies_getD .bw p.bods i ha.hb, Int.toNat_natCast, ints_getD (s.ths.getD i default).regs (ins p s i).r.toNat rr, ints_getD (s.ths.getD i default).regs (ins p s i).a.toNat ra, ints_getD (s.ths.getD i default).regs (ins p s i).b.toNat rb, hw1]
      repeat refine K ?_
      apply fin_one
      · refine Sub.trans (Sub.foldAt 11 1 13 rfl (by simp [-gD] <;> omega) rfl (by decide) (by decide) rfl (by simp <;> omega)) ?_
        simp only [fS, qA, qC, threads_set]
        refine Sub.trans (Sub.fold1 0 0 11 rfl (by simp [-gD] <;> omega) rfl (by decide) (by decide) rfl) ?_
        simp only [fS, qA, qC, threads_set]
        exact Sub.refl _
      · simp [-List.drop_one, -gD, threads_set, sourceStep, doStep, goTo, setReg, reg, hcode, hn, h2] <;> (first | rfl | exact ⟨rfl, rfl⟩ | exact ⟨rfl, rfl, rfl⟩ | skip)
    · simp only [go_sem, qA, qB, qC, qD, qE, qF, qG, qH, hn, gt, threads_getD .own s.ths i w1, bodies_getD .bw p.bods i ha.hb, Int.toNat_natCast, ints_getD (s.ths.getD i default).regs (ins p s i).r.toNat rr, ints_getD (s.ths.getD i default).regs (ins p s i).a.toNat ra, ints_getD (s.ths.getD i default).regs (ins p s i).b.toNat rb, hw1]
      repeat refine K ?_
      apply fin_one
      · refine Sub.trans (Sub.foldAt 11 1 13 rfl (by simp [-gD] <;> omega) rfl (by decide) (by decide) rfl (by simp <;> omega)) ?_
        simp only [fS, qA, qC, threads_set]
        refine Sub.trans (Sub.fold1 0 0 11 rfl (by simp [-gD] <;> omega) rfl (by decide) (by decide) rfl) ?_
        simp only [fS, qA, qC, threads_set]
        exact Sub.refl _
      · simp [-List.drop_one, -gD, threads_set, sourceStep, doStep, goTo, setReg, reg, hcode, hn, h2] <;> (first | rfl | exact ⟨rfl, rfl⟩ | exact ⟨rfl, rfl, rfl⟩ | skip)
  by_cases h3 : (ins p s i).op = 3
  · simp only [go_sem, qA, qB, qC, qD, qE, qF, qG, qH, h3, gt, threads_getD .own s.ths i w1, bodies_getD .bw p.bods i ha.hb, Int.toNat_natCast, ints_getD (s.ths.getD i default).regs (ins p s i).r.toNat rr, ints_getD (s.ths.getD i default).regs (ins p s i).a.toNat ra, ints_getD (s.ths.getD i default).regs (ins p s i).b.toNat rb, hw1]
    repeat refine K ?_
    refine DA [] (compute_ok 3 ((s.ths.getD i default).regs.getD (ins p s i).a.toNat 0) ((s.ths.getD i default).regs.getD (ins p s i).b.toNat 0)) ?_
    try simp only [go_sem, qA, qB, qC, qD, qE, qF, qG, qH]
    repeat refine K ?_
    simp only [go_sem, qA, qB, qC, qD, qE, qF, qG, qH, h3, gt, threads_getD .own s.ths i w1, bodies_getD .bw p.bods i ha.hb, Int.toNat_natCast, ints_getD (s.ths.getD i default).regs (ins p s i).r.toNat rr, ints_getD (s.ths.getD i default).regs (ins p s i).a.toNat ra, ints_getD (s.ths.getD i default).regs (ins p s i).b.toNat rb, hw1]
    repeat refine K ?_
    by_cases hn : ((p.bods.getD i []).length : Int) ≤ (s.ths.getD i default).at_ + 1
    · simp only [go_sem, qA, qB, qC, qD, qE, qF, qG, qH, hn, gt, threads_getD .own s.ths i w1, bodies_getD .bw p.bods i ha.hb, Int.toNat_natCast, ints_getD (s.ths.getD i default).regs (ins p s i).r.toNat rr, ints_getD (s.ths.getD i default).regs (ins p s i).a.toNat ra, ints_getD (s.ths.getD i default).regs (ins p s i).b.toNat rb, hw1]
      repeat refine K ?_
      apply fin_one
      · refine Sub.trans (Sub.foldAt 11 1 13 rfl (by simp [-gD] <;> omega) rfl (by decide) (by decide) rfl (by simp <;> omega)) ?_
        simp only [fS, qA, qC, threads_set]
        refine Sub.trans (Sub.fold1 0 0 11 rfl (by simp [-gD] <;> omega) rfl (by decide) (by decide) rfl) ?_
        simp only [fS, qA, qC, threads_set]
        exact Sub.refl _
      · simp [-List.drop_one, -gD, threads_set, sourceStep, doStep, goTo, setReg, reg, hcode, hn, h3] <;> (first | rfl | exact ⟨rfl, rfl⟩ | exact ⟨rfl, rfl, rfl⟩ | skip)
    · simp only [go_sem, qA, qB, qC, qD, qE, qF, qG, qH, hn, gt, threads_getD .own s.ths i w1, bodies_getD .bw p.bods i ha.hb, Int.toNat_natCast, ints_getD (s.ths.getD i default).regs (ins p s i).r.toNat rr, ints_getD (s.ths.getD i default).regs (ins p s i).a.toNat ra, ints_getD (s.ths.getD i default).regs (ins p s i).b.toNat rb, hw1]
      repeat refine K ?_
      apply fin_one
      · refine Sub.trans (Sub.foldAt 11 1 13 rfl (by simp [-gD] <;> omega) rfl (by decide) (by decide) rfl (by simp <;> omega)) ?_
        simp only [fS, qA, qC, threads_set]
        refine Sub.trans (Sub.fold1 0 0 11 rfl (by simp [-gD] <;> omega) rfl (by decide) (by decide) rfl) ?_
        simp only [fS, qA, qC, threads_set]
        exact Sub.refl _
      · simp [-List.drop_one, -gD, threads_set, sourceStep, doStep, goTo, setReg, reg, hcode, hn, h3] <;> (first | rfl | exact ⟨rfl, rfl⟩ | exact ⟨rfl, rfl, rfl⟩ | skip)
  by_cases h4 : (ins p s i).op = 4
  · simp only [go_sem, qA, qB, qC, qD, qE, qF, qG, qH, h4, gt, threads_getD .own s.ths i w1, bodies_getD .bw p.bods i ha.hb, Int.toNat_natCast, ints_getD (s.ths.getD i default).regs (ins p s i).r.toNat rr, ints_getD (s.ths.getD i default).regs (ins p s i).a.toNat ra, ints_getD (s.ths.getD i default).regs (ins p s i).b.toNat rb, hw1]
    repeat refine K ?_
    refine DA [] (compute_ok 4 ((s.ths.getD i default).regs.getD (ins p s i).a.toNat 0) ((s.ths.getD i default).regs.getD (ins p s i).b.toNat 0)) ?_
    try simp only [go_sem, qA, qB, qC, qD, qE, qF, qG, qH]
    repeat refine K ?_
    simp only [go_sem, qA, qB, qC, qD, qE, qF, qG, qH, h4, gt, threads_getD .own s.ths i w1, bodies_getD .bw p.bods i ha.hb, Int.toNat_natCast, ints_getD (s.ths.getD i default).regs (ins p s i).r.toNat rr, ints_getD (s.ths.getD i default).regs (ins p s i).a.toNat ra, ints_getD (s.ths.getD i default).regs (ins p s i).b.toNat rb, hw1]
    repeat refine K ?_
    by_cases hn : ((p.bods.getD i []).length : Int) ≤ (s.ths.getD i default).at_ + 1
    · simp only [go_sem, qA, qB, qC, qD, qE, qF, qG, qH, hn, gt, threads_getD .own s.ths i w1, bodies_getD .bw p.bods i ha.hb, Int.toNat_natCast, ints_getD (s.ths.getD i default).regs (ins p s i).r.toNat rr, ints_getD (s.ths.getD i default).regs (ins p s i).a.toNat ra, ints_getD (s.ths.getD i default).regs (ins p s i).b.toNat rb, hw1]
      repeat refine K ?_
      apply fin_one
      · refine Sub.trans (Sub.foldAt 11 1 13 rfl (by simp [-gD] <;> omega) rfl (by decide) (by decide) rfl (by simp <;> omega)) ?_
        simp only [fS, qA, qC, threads_set]
        refine Sub.trans (Sub.fold1 0 0 11 rfl (by simp [-gD] <;> omega) rfl (by decide) (by decide) rfl) ?_
        simp only [fS, qA, qC, threads_set]
        exact Sub.refl _
      · simp [-List.drop_one, -gD, threads_set, sourceStep, doStep, goTo, setReg, reg, hcode, hn, h4] <;> (first | rfl | exact ⟨rfl, rfl⟩ | exact ⟨rfl, rfl, rfl⟩ | skip)
    · simp only [go_sem, qA, qB, qC, qD, qE, qF, qG, qH, hn, gt, threads_getD .own s.ths i w1, bodies_getD .bw p.bods i ha.hb, Int.toNat_natCast, ints_getD (s.ths.getD i default).regs (ins p s i).r.toNat rr, ints_getD (s.ths.getD i default).regs (ins p s i).a.toNat ra, ints_getD (s.ths.getD i default).regs (ins p s i).b.toNat rb, hw1]
      repeat refine K ?_
      apply fin_one
      · refine Sub.trans (Sub.foldAt 11 1 13 rfl (by simp [-gD] <;> omega) rfl (by decide) (by decide) rfl (by simp <;> omega)) ?_
        simp only [fS, qA, qC, threads_set]
        refine Sub.trans (Sub.fold1 0 0 11 rfl (by simp [-gD] <;> omega) rfl (by decide) (by decide) rfl) ?_
        simp only [fS, qA, qC, threads_set]
        exact Sub.refl _
      · simp [-List.drop_one, -gD, threads_set, sourceStep, doStep, goTo, setReg, reg, hcode, hn, h4] <;> (first | rfl | exact ⟨rfl, rfl⟩ | exact ⟨rfl, rfl, rfl⟩ | skip)
  by_cases h10 : (ins p s i).op = 10
  · simp only [go_sem, qA, qB, qC, qD, qE, qF, qG, qH, h10, gt, threads_getD .own s.ths i w1, bodies_getD .bw p.bods i ha.hb, Int.toNat_natCast, ints_getD (s.ths.getD i default).regs (ins p s i).r.toNat rr, ints_getD (s.ths.getD i default).regs (ins p s i).a.toNat ra, ints_getD (s.ths.getD i default).regs (ins p s i).b.toNat rb, hw1]
    repeat refine K ?_
    by_cases hn : ((p.bods.getD i []).length : Int) ≤ (s.ths.getD i default).at_ + 1
    · simp only [go_sem, qA, qB, qC, qD, qE, qF, qG, qH, hn, gt, threads_getD .own s.ths i w1, bodies_getD .bw p.bods i ha.hb, Int.toNat_natCast, ints_getD (s.ths.getD i default).regs (ins p s i).r.toNat rr, ints_getD (s.ths.getD i default).regs (ins p s i).a.toNat ra, ints_getD (s.ths.getD i default).regs (ins p s i).b.toNat rb, hw1]
      repeat refine K ?_
      apply fin_one
      · refine Sub.trans (Sub.foldAt 11 1 14 rfl (by simp [-gD] <;> omega) rfl (by decide) (by decide) rfl (by simp <;> omega)) ?_
        simp only [fS, qA, qC, threads_set]
        refine Sub.trans (Sub.fold1 0 0 11 rfl (by simp [-gD] <;> omega) rfl (by decide) (by decide) rfl) ?_
        simp only [fS, qA, qC, threads_set]
        refine Sub.trans (Sub.fold1 0 2 16 rfl (by simp [-gD] <;> omega) rfl (by decide) (by decide) rfl) ?_
        simp only [fS, qA, qC, threads_set]
        exact Sub.refl _
      · simp [-List.drop_one, -gD, threads_set, sourceStep, doStep, goTo, setReg, reg, hcode, hn, h10, notes_one, notes_append] <;> (first | rfl | exact ⟨rfl, rfl⟩ | exact ⟨rfl, rfl, rfl⟩ | skip)
    · simp only [go_sem, qA, qB, qC, qD, qE, qF, qG, qH, hn, gt, threads_getD .own s.ths i w1, bodies_getD .bw p.bods i ha.hb, Int.toNat_natCast, ints_getD (s.ths.getD i default).regs (ins p s i).r.toNat rr, ints_getD (s.ths.getD i default).regs (ins p s i).a.toNat ra, ints_getD (s.ths.getD i default).regs (ins p s i).b.toNat rb, hw1]
      repeat refine K ?_
      apply fin_one
      · refine Sub.trans (Sub.foldAt 11 1 14 rfl (by simp [-gD] <;> omega) rfl (by decide) (by decide) rfl (by simp <;> omega)) ?_
        simp only [fS, qA, qC, threads_set]
        refine Sub.trans (Sub.fold1 0 0 11 rfl (by simp [-gD] <;> omega) rfl (by decide) (by decide) rfl) ?_
        simp only [fS, qA, qC, threads_set]
        refine Sub.trans (Sub.fold1 0 2 16 rfl (by simp [-gD] <;> omega) rfl (by decide) (by decide) rfl) ?_
        simp only [fS, qA, qC, threads_set]
        exact Sub.refl _
      · simp [-List.drop_one, -gD, threads_set, sourceStep, doStep, goTo, setReg, reg, hcode, hn, h10, notes_one, notes_append] <;> (first | rfl | exact ⟨rfl, rfl⟩ | exact ⟨rfl, rfl, rfl⟩ | skip)
  by_cases h11 : (ins p s i).op = 11
  · simp only [go_sem, qA, qB, qC, qD, qE, qF, qG, qH, h11, gt, threads_getD .own s.ths i w1, bodies_getD .bw p.bods i ha.hb, Int.toNat_natCast, ints_getD (s.ths.getD i default).regs (ins p s i).r.toNat rr, ints_getD (s.ths.getD i default).regs (ins p s i).a.toNat ra, ints_getD (s.ths.getD i default).regs (ins p s i).b.toNat rb, hw1]
    repeat refine K ?_
    by_cases hn : ((p.bods.getD i []).length : Int) ≤ (ins p s i).n
    · simp only [go_sem, qA, qB, qC, qD, qE, qF, qG, qH, hn, gt, threads_getD .own s.ths i w1, bodies_getD .bw p.bods i ha.hb, Int.toNat_natCast, ints_getD (s.ths.getD i default).regs (ins p s i).r.toNat rr, ints_getD (s.ths.getD i default).regs (ins p s i).a.toNat ra, ints_getD (s.ths.getD i default).regs (ins p s i).b.toNat rb, hw1]
      repeat refine K ?_
      apply fin_one
      · refine Sub.trans (Sub.fold1 0 0 11 rfl (by simp [-gD] <;> omega) rfl (by decide) (by decide) rfl) ?_
        simp only [fS, qA, qC, threads_set]
        exact Sub.refl _
      · simp [-List.drop_one, -gD, threads_set, sourceStep, doStep, goTo, setReg, reg, hcode, hn, h11] <;> (first | rfl | exact ⟨rfl, rfl⟩ | exact ⟨rfl, rfl, rfl⟩ | skip)
    · simp only [go_sem, qA, qB, qC, qD, qE, qF, qG, qH, hn, gt, threads_getD .own s.ths i w1, bodies_getD .bw p.bods i ha.hb, Int.toNat_natCast, ints_getD (s.ths.getD i default).regs (ins p s i).r.toNat rr, ints_getD (s.ths.getD i default).regs (ins p s i).a.toNat ra, ints_getD (s.ths.getD i default).regs (ins p s i).b.toNat rb, hw1]
      repeat refine K ?_
      apply fin_one
      · refine Sub.trans (Sub.fold1 0 0 11 rfl (by simp [-gD] <;> omega) rfl (by decide) (by decide) rfl) ?_
        simp only [fS, qA, qC, threads_set]
        exact Sub.refl _
      · simp [-List.drop_one, -gD, threads_set, sourceStep, doStep, goTo, setReg, reg, hcode, hn, h11] <;> (first | rfl | exact ⟨rfl, rfl⟩ | exact ⟨rfl, rfl, rfl⟩ | skip)
  by_cases h12 : (ins p s i).op = 12
  · simp only [go_sem, qA, qB, qC, qD, qE, qF, qG, qH, h12, gt, threads_getD .own s.ths i w1, bodies_getD .bw p.bods i ha.hb, Int.toNat_natCast, ints_getD (s.ths.getD i default).regs (ins p s i).r.toNat rr, ints_getD (s.ths.getD i default).regs (ins p s i).a.toNat ra, ints_getD (s.ths.getD i default).regs (ins p s i).b.toNat rb, hw1]
    repeat refine K ?_
    by_cases hz : (s.ths.getD i default).regs.getD (ins p s i).a.toNat 0 = 0
    · simp only [go_sem, qA, qB, qC, qD, qE, qF, qG, qH, h12, hz, gt, threads_getD .own s.ths i w1, bodies_getD .bw p.bods i ha.hb, Int.toNat_natCast, ints_getD (s.ths.getD i default).regs (ins p s i).r.toNat rr, ints_getD (s.ths.getD i default).regs (ins p s i).a.toNat ra, ints_getD (s.ths.getD i default).regs (ins p s i).b.toNat rb, hw1]
      repeat refine K ?_
      by_cases hn : ((p.bods.getD i []).length : Int) ≤ (ins p s i).n
      · simp only [go_sem, qA, qB, qC, qD, qE, qF, qG, qH, hn, gt, threads_getD .own s.ths i w1, bodies_getD .bw p.bods i ha.hb, Int.toNat_natCast, ints_getD (s.ths.getD i default).regs (ins p s i).r.toNat rr, ints_getD (s.ths.getD i default).regs (ins p s i).a.toNat ra, ints_getD (s.ths.getD i default).regs (ins p s i).b.toNat rb, hw1]
        repeat refine K ?_
        apply fin_one
        · refine Sub.trans (Sub.foldAt 11 1 13 rfl (by simp [-gD] <;> omega) rfl (by decide) (by decide) rfl (by simp <;> omega)) ?_
          simp only [fS, qA, qC, threads_set]
          refine Sub.trans (Sub.fold1 0 0 11 rfl (by simp [-gD] <;> omega) rfl (by decide) (by decide) rfl) ?_
          simp only [fS, qA, qC, threads_set]
          exact Sub.refl _
        · simp [-List.drop_one, -gD, threads_set, sourceStep, doStep, goTo, setReg, reg, hcode, hn, h12, hz] <;> (first | rfl | exact ⟨rfl, rfl⟩ | exact ⟨rfl, rfl, rfl⟩ | skip)
      · simp only [go_sem, qA, qB, qC, qD, qE, qF, qG, qH, hn, gt, threads_getD .own s.ths i w1, bodies_getD .bw p.bods i ha.hb, Int.toNat_natCast, ints_getD (s.ths.getD i default).regs (ins p s i).r.toNat rr, ints_getD (s.ths.getD i default).regs (ins p s i).a.toNat ra, ints_getD (s.ths.getD i default).regs (ins p s i).b.toNat rb, hw1]
        repeat refine K ?_
        apply fin_one
        · refine Sub.trans (Sub.foldAt 11 1 13 rfl (by simp [-gD] <;> omega) rfl (by decide) (by decide) rfl (by simp <;> omega)) ?_
          simp only [fS, qA, qC, threads_set]
          refine Sub.trans (Sub.fold1 0 0 11 rfl (by simp [-gD] <;> omega) rfl (by decide) (by decide) rfl) ?_
          simp only [fS, qA, qC, threads_set]
          exact Sub.refl _
        · simp [-List.drop_one, -gD, threads_set, sourceStep, doStep, goTo, setReg, reg, hcode, hn, h12, hz] <;> (first | rfl | exact ⟨rfl, rfl⟩ | exact ⟨rfl, rfl, rfl⟩ | skip)
    · simp only [go_sem, qA, qB, qC, qD, qE, qF, qG, qH, h12, hz, gt, threads_getD .own s.ths i w1, bodies_getD .bw p.bods i ha.hb, Int.toNat_natCast, ints_getD (s.ths.getD i default).regs (ins p s i).r.toNat rr, ints_getD (s.ths.getD i default).regs (ins p s i).a.toNat ra, ints_getD (s.ths.getD i default).regs (ins p s i).b.toNat rb, hw1]
      repeat refine K ?_
      by_cases hn : ((p.bods.getD i []).length : Int) ≤ (s.ths.getD i default).at_ + 1
      · simp only [go_sem, qA, qB, qC, qD, qE, qF, qG, qH, hn, gt, threads_getD .own s.ths i w1, bodies_getD .bw p.bods i ha.hb, Int.toNat_natCast, ints_getD (s.ths.getD i default).regs (ins p s i).r.toNat rr, ints_getD (s.ths.getD i default).regs (ins p s i).a.toNat ra, ints_getD (s.ths.getD i default).regs (ins p s i).b.toNat rb, hw1]
        repeat refine K ?_
        apply fin_one
        · refine Sub.trans (Sub.foldAt 11 1 13 rfl (by simp [-gD] <;> omega) rfl (by decide) (by decide) rfl (by simp <;> omega)) ?_
          simp only [fS, qA, qC, threads_set]
          refine Sub.trans (Sub.fold1 0 0 11 rfl (by simp [-gD] <;> omega) rfl (by decide) (by decide) rfl) ?_
          simp only [fS, qA, qC, threads_set]
          exact Sub.refl _
        · simp [-List.drop_one, -gD, threads_set, sourceStep, doStep, goTo, setReg, reg, hcode, hn, h12, hz] <;> (first | rfl | exact ⟨rfl, rfl⟩ | exact ⟨rfl, rfl, rfl⟩ | skip)
      · simp only [go_sem, qA, qB, qC, qD, qE, qF, qG, qH, hn, gt, threads_getD .own s.ths i w1, bodies_getD .bw p.bods i ha.hb, Int.toNat_natCast, ints_getD (s.ths.getD i default).regs (ins p s i).r.toNat rr, ints_getD (s.ths.getD i default).regs (ins p s i).a.toNat ra, ints_getD (s.ths.getD i default).regs (ins p s i).b.toNat rb, hw1]
        repeat refine K ?_
        apply fin_one
        · refine Sub.trans (Sub.foldAt 11 1 13 rfl (by simp [-gD] <;> omega) rfl (by decide) (by decide) rfl (by simp <;> omega)) ?_
          simp only [fS, qA, qC, threads_set]
          refine Sub.trans (Sub.fold1 0 0 11 rfl (by simp [-gD] <;> omega) rfl (by decide) (by decide) rfl) ?_
          simp only [fS, qA, qC, threads_set]
          exact Sub.refl _
        · simp [-List.drop_one, -gD, threads_set, sourceStep, doStep, goTo, setReg, reg, hcode, hn, h12, hz] <;> (first | rfl | exact ⟨rfl, rfl⟩ | exact ⟨rfl, rfl, rfl⟩ | skip)
  by_cases h13 : (ins p s i).op = 13
  · simp only [go_sem, qA, qB, qC, qD, qE, qF, qG, qH, h13, gt, threads_getD .own s.ths i w1, bodies_getD .bw p.bods i ha.hb, Int.toNat_natCast, ints_getD (s.ths.getD i default).regs (ins p s i).r.toNat rr, ints_getD (s.ths.getD i default).regs (ins p s i).a.toNat ra, ints_getD (s.ths.getD i default).regs (ins p s i).b.toNat rb, hw1]
    repeat refine K ?_
    apply fin_one
    · refine Sub.trans (Sub.fold1 0 0 11 rfl (by simp [-gD] <;> omega) rfl (by decide) (by decide) rfl) ?_
      simp only [fS, qA, qC, threads_set]
      exact Sub.refl _
    · simp [-List.drop_one, -gD, threads_set, sourceStep, doStep, goTo, setReg, reg, hcode, h13] <;> (first | rfl | exact ⟨rfl, rfl⟩ | exact ⟨rfl, rfl, rfl⟩ | skip)
  obtain ⟨n0, n1⟩ := ha.ch (by have := ha.op; omega) (by have := ha.op; omega)
  simp only [go_sem, qA, qB, qC, qD, qE, qF, qG, qH, h1, h2, h3, h4, h10, h11, h12, h13, gt, threads_getD .own s.ths i w1, bodies_getD .bw p.bods i ha.hb, Int.toNat_natCast, ints_getD (s.ths.getD i default).regs (ins p s i).r.toNat rr, ints_getD (s.ths.getD i default).regs (ins p s i).a.toNat ra, ints_getD (s.ths.getD i default).regs (ins p s i).b.toNat rb, hw1]
  repeat refine K ?_
  refine DA [(0, 11), (1, 13)] (chanStep_ok s.ths i s.chs (ins p s i).n.toNat (ins p s i) w1 n1 e4 (hs5 _ (getD_mem s.chs _ default n1)) r0 r1 a0 a1 b0 b1) ?_
  try simp only [go_sem, qA, qB, qC, qD, qE, qF, qG, qH]
  repeat refine K ?_
  have g3 : i < (s.ths.set i (chanStep (s.ths.getD i default) (s.chs.getD (ins p s i).n.toNat default) (ins p s i)).1).length := by rw [List.length_set]; exact w1
  have g4 : ∀ t : Thread, (s.ths.set i t).getD i default = t := fun t => getD_set_self _ _ _ _ w1
  have g5 : ∀ (t : Thread) r, ((threads .own (s.ths.set i t)).set i r).getD i [] = r := fun t r => getD_set_self _ _ _ _ (by rw [threads_length, List.length_set]; exact w1)
  cases hok : (chanStep (s.ths.getD i default) (s.chs.getD (ins p s i).n.toNat default) (ins p s i)).2.2
  · simp only [go_sem, qA, qB, qC, qD, qE, qF, qG, qH, hok, gt, threads_getD .own s.ths i w1, bodies_getD .bw p.bods i ha.hb, Int.toNat_natCast, ints_getD (s.ths.getD i default).regs (ins p s i).r.toNat rr, ints_getD (s.ths.getD i default).regs (ins p s i).a.toNat ra, ints_getD (s.ths.getD i default).regs (ins p s i).b.toNat rb, hw1, threads_getD .own _ i g3, g4]
    repeat refine K ?_
    apply fin_one
    · refine Sub.trans (Sub.fold1 0 0 11 rfl (by simp [-gD] <;> omega) rfl (by decide) (by decide) rfl) ?_
      simp only [fS, qA, qC, threads_set]
      refine Sub.trans (Sub.fold1 0 1 13 rfl (by simp [-gD] <;> omega) rfl (by decide) (by decide) rfl) ?_
      simp only [fS, qA, qC]
      exact Sub.refl _
    · simp [-List.drop_one, -gD, threads_set, sourceStep, doStep, goTo, hcode, hok, h1, h2, h3, h4, h10, h11, h12, h13] <;> (first | rfl | exact ⟨rfl, rfl⟩ | exact ⟨rfl, rfl, rfl⟩ | skip)
  · simp only [go_sem, qA, qB, qC, qD, qE, qF, qG, qH, hok, gt, threads_getD .own s.ths i w1, bodies_getD .bw p.bods i ha.hb, Int.toNat_natCast, ints_getD (s.ths.getD i default).regs (ins p s i).r.toNat rr, ints_getD (s.ths.getD i default).regs (ins p s i).a.toNat ra, ints_getD (s.ths.getD i default).regs (ins p s i).b.toNat rb, hw1, threads_getD .own _ i g3, g4]
    repeat refine K ?_
    by_cases hn : ((p.bods.getD i []).length : Int) ≤ (s.ths.getD i default).at_ + 1
    · simp only [go_sem, qA, qB, qC, qD, qE, qF, qG, qH, hn, gt, threads_getD .own s.ths i w1, bodies_getD .bw p.bods i ha.hb, Int.toNat_natCast, ints_getD (s.ths.getD i default).regs (ins p s i).r.toNat rr, ints_getD (s.ths.getD i default).regs (ins p s i).a.toNat ra, ints_getD (s.ths.getD i default).regs (ins p s i).b.toNat rb, hw1, threads_getD .own _ i g3, g4]
      repeat refine K ?_
      apply fin_one
      · refine Sub.trans (Sub.fold1 0 0 11 rfl (by simp [-gD] <;> omega) rfl (by decide) (by decide) rfl) ?_
        simp only [fS, qA, qC, threads_set]
        refine Sub.trans (Sub.fold1 0 1 13 rfl (by simp [-gD] <;> omega) rfl (by decide) (by decide) rfl) ?_
        simp only [fS, qA, qC]
        exact Sub.refl _
      · simp [-List.drop_one, -gD, threads_set, sourceStep, doStep, goTo, hcode, hok, hn, h1, h2, h3, h4, h10, h11, h12, h13] <;> (first | rfl | exact ⟨rfl, rfl⟩ | exact ⟨rfl, rfl, rfl⟩ | skip)
    · simp only [go_sem, qA, qB, qC, qD, qE, qF, qG, qH, hn, gt, threads_getD .own s.ths i w1, bodies_getD .bw p.bods i ha.hb, Int.toNat_natCast, ints_getD (s.ths.getD i default).regs (ins p s i).r.toNat rr, ints_getD (s.ths.getD i default).regs (ins p s i).a.toNat ra, ints_getD (s.ths.getD i default).regs (ins p s i).b.toNat rb, hw1, threads_getD .own _ i g3, g4]
      repeat refine K ?_
      apply fin_one
      · refine Sub.trans (Sub.fold1 0 0 11 rfl (by simp [-gD] <;> omega) rfl (by decide) (by decide) rfl) ?_
        simp only [fS, qA, qC, threads_set]
        refine Sub.trans (Sub.fold1 0 1 13 rfl (by simp [-gD] <;> omega) rfl (by decide) (by decide) rfl) ?_
        simp only [fS, qA, qC]
        exact Sub.refl _
      · simp [-List.drop_one, -gD, threads_set, sourceStep, doStep, goTo, hcode, hok, hn, h1, h2, h3, h4, h10, h11, h12, h13] <;> (first | rfl | exact ⟨rfl, rfl⟩ | exact ⟨rfl, rfl, rfl⟩ | skip)


end Go.Sep
