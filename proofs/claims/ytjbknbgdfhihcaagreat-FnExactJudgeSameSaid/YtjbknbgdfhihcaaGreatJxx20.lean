/- Contracts of functions. -/
import Derived.Test.YtjbknbgdfhihcaaGreatJxx18
import Derived.Test.YtjbknbgdfhihcaaGreatJxx19
namespace Go.Sep
set_option maxHeartbeats 16000000
open Go.Proofs
set_option linter.unusedSimpArgs false
set_option linter.unusedVariables false
set_option maxRecDepth 100000
open Nat renaming reduceAdd → qA, reduceMul → qB, reduceEqDiff → qC, reduceBEq → qD
open Int renaming reduceToNat → qE, reduceEq → qF, reduceLT → qG, reduceLE → qH
open List renaming getD_eq_getElem?_getD → gD
def m357:MFn:=⟨201,[.cell 4 4 true,.t 5],kr [xb 2 0,xb 3 1,xo 4 (.alloc [.nil,.nil,.nil,.nil]),xI 5 0] (kr [xa 12 1 2,xl 13 12,xa 14 0 3,xl 15 14,xD 16 4 13 15,xm 17 4 16,xo 6 (.alloc [.int .i64 0,.nil,.nil,.int .i64 0]),xS 4 6 17] (.seq (.dreg (.take 0 (xa 18 0 2) (.take 1 (xl 19 18) (.take 2 (xa 20 0 3) (.take 3 (xl 21 20) (.take 4 (xD 22 1 19 21) (.take 5 (xl 23 22) (.take 6 (xa 24 0 6) (.take 7 (xl 25 24) (.take 8 (xD 26 5 23 25) (.take 9 (xm 27 5 26) (.only 10 [] (xo 7 (.alloc [xz,xz,xz,xz,xz])) (.only 11 [0,1,2,3,4,5,6,7,8,9] (xS 5 7 27) (.done)))))))))))))) (kr [xa 28 0 6,xl 29 28,bI 30 .add 29 1,xv 8 30] (.seq (kr [xa 31 0 7,xl 32 31] (.blk 0 (kr [bI 54 .eql 32 1,xv 53 54] (.cond 53 (xr [xa 55 1 6,xl 56 55,xa 57 1 7,xl 58 57,xa 59 4 7,xl 60 59,xD 61 1 56 58,xS 1 61 60]) (kr [bI 63 .eql 32 2,xv 62 63] (.cond 62 (.dreg (.take 0 (xa 64 1 6) (.take 1 (xl 65 64) (.take 2 (xa 66 1 7) (.take 3 (xl 67 66) (.take 4 (xa 68 1 6) (.take 5 (xl 69 68) (.take 6 (xa 70 2 7) (.take 7 (xl 71 70) (.take 8 (xD 72 1 69 71) (.take 9 (xl 73 72) (.take 10 (xa 74 1 6) (.take 11 (xl 75 74) (.only 12 [] (xa 76 3 7) (.only 13 [] (xl 77 76) (.only 14 [11,10] (xD 78 1 75 77) (.only 15 [14,11,10] (xl 79 78) (.only 16 [9,15,8,14,5,7,11,4,6,10] (bT 80 .add 73 79) (.only 17 [0,1,2,3,4,5,6,7,8,9,10,11] (xD 81 1 65 67) (.only 18 [0,1,2,3,4,5,6,7,8,9,10,11] (xS 1 81 80) (.done))))))))))))))))))))) (kr [bI 83 .eql 32 3,xv 82 83] (.cond 82 (.dreg (.take 0 (xa 84 1 6) (.take 1 (xl 85 84) (.take 2 (xa 86 1 7) (.take 3 (xl 87 86) (.take 4 (xa 88 1 6) (.take 5 (xl 89 88) (.take 6 (xa 90 2 7) (.take 7 (xl 91 90) (.take 8 (xD 92 1 89 91) (.take 9 (xl 93 92) (.take 10 (xa 94 1 6) (.take 11 (xl 95 94) (.only 12 [] (xa 96 3 7) (.only 13 [] (xl 97 96) (.only 14 [11,10] (xD 98 1 95 97) (.only 15 [14,11,10] (xl 99 98) (.only 16 [9,15,8,14,5,7,11,4,6,10] (bT 100 .sub 93 99) (.only 17 [0,1,2,3,4,5,6,7,8,9,10,11] (xD 101 1 85 87) (.only 18 [0,1,2,3,4,5,6,7,8,9,10,11] (xS 1 101 100) (.done))))))))))))))))))))) (kr [bI 103 .eql 32 4,xv 102 103] (.cond 102 (.dreg (.take 0 (xa 104 1 6) (.take 1 (xl 105 104) (.take 2 (xa 106 1 7) (.take 3 (xl 107 106) (.take 4 (xa 108 1 6) (.take 5 (xl 109 108) (.take 6 (xa 110 2 7) (.take 7 (xl 111 110) (.take 8 (xD 112 1 109 111) (.take 9 (xl 113 112) (.take 10 (xa 114 1 6) (.take 11 (xl 115 114) (.only 12 [] (xa 116 3 7) (.only 13 [] (xl 117 116) (.only 14 [11,10] (xD 118 1 115 117) (.only 15 [14,11,10] (xl 119 118) (.only 16 [9,15,8,14,5,7,11,4,6,10] (bT 120 .lss 113 119) (.only 17 [16,9,15,8,14,5,7,11,4,6,10] (xc1 121 85 (.t 120)) (.only 18 [0,1,2,3,4,5,6,7,8,9,10,11] (xD 122 1 105 107) (.only 19 [0,1,2,3,4,5,6,7,8,9,10,11] (xS 1 122 121) (.done)))))))))))))))))))))) (kr [bI 124 .eql 32 9,xv 123 124] (.cond 123 (.seq (kr [xa 125 3 2,xl 126 125,xe 127 126,bI 128 .eql 127 4000] (kF 128 [xm 129 4 2,xS 4 4 129,xI 5 3])) (.dreg (.take 0 (xa 130 3 2) (.take 1 (xl 131 130) (.take 2 (xa 132 0 3) (.take 3 (xl 133 132) (.take 4 (xa 134 1 6) (.take 5 (xl 135 134) (.only 6 [] (xa 136 2 7) (.only 7 [] (xl 137 136) (.only 8 [5,4] (xD 138 1 135 137) (.only 9 [8,5,4] (xl 139 138) (.only 10 [3,9,2,8,5,4] (xo 140 (.build [xz,xz] [(0,1,.t 133),(1,1,.t 139)])) (.only 11 [10,3,9,2,8,5,4] (xo 141 (.mkSl [xz,xz] 1 [(0,.t 140)])) (.only 12 [1,11,0,10,3,9,2,8,5,4] (xA 142 2 16 131 141) (.only 13 [0,1,2,3,4,5] (xa 143 3 2) (.only 14 [0,1,2,3,4,5] (xS 1 143 142) (.done)))))))))))))))))) (kr [bI 145 .eql 32 10,xv 144 145] (.cond 144 (xr [xa 146 4 7,xl 147 146,xv 8 147]) (kr [bI 149 .eql 32 11,xv 148 149] (.cond 148 (kr [xa 150 1 6,xl 151 150,xa 152 2 7,xl 153 152,xD 154 1 151 153,xl 155 154,bI 156 .eql 155 0] (.cond 156 (xr [xa 157 4 7,xl 158 157,xv 8 158]) (.skip))) (kr [bI 160 .eql 32 12,xv 159 160] (.cond 159 (kr [xa 161 1 2,xl 162 161,xa 163 0 3,xl 164 163,xD 165 4 162 164,xa 166 3 165,⟨none,.store 1 (.t 166) (xi 1),none⟩] (kR [xm 167 4 2,xS 4 4 167,xI 5 0])) (kr [bI 169 .eql 32 13,xv 168 169] (.cond 168 (kr [xa 170 1 2,xl 171 170,xa 172 0 3,xl 173 172,xD 174 4 171 173,xa 175 3 174,⟨none,.store 1 (.t 175) (xi 2),none⟩] (kR [xm 176 4 2,xS 4 4 176,xI 5 0])) (kr [xm 34 4 2,xm 35 2 3,xm 36 5 7,xo 37 (.call 365 [true,false,false] [.t 34,.t 35,.t 36]),xv 33 37,xX 38 33 0,xX 39 33 1,xX 40 33 2,xo 9 (.alloc [.nil,.nil,.nil,.nil]),xS 4 9 38,xv 10 39,xv 11 40] (.seq (kr [xv 41 11] (kF 41 [xm 42 4 2,xS 4 4 42,xI 5 3])) (kr [xm 43 4 9,xS 4 2 43] (kr [xv 44 10,xN 45 44] (.cond 45 (kr [xa 46 1 2,xl 47 46,xa 48 0 3,xl 49 48,xD 50 4 47 49,xa 51 3 50,⟨none,.store 1 (.t 51) (xi 2),none⟩] (kR [xm 52 4 2,xS 4 4 52,xI 5 0])) (.skip)))))))))))))))))))))))))) (.seq (kr [xv 177 8,xa 178 0 2,xl 179 178,xa 180 0 3,xl 181 180,xD 182 1 179 181,xl 183 182,xe 184 183,bT 185 .geq 177 184] (.cond 185 (kr [xa 186 1 2,xl 187 186,xa 188 0 3,xl 189 188,xD 190 4 187 189,xa 191 3 190,⟨none,.store 1 (.t 191) (xi 2),none⟩] (kR [xm 192 4 2,xS 4 4 192,xI 5 0])) (.skip))) (kr [xa 193 1 2,xl 194 193,xa 195 0 3,xl 196 195,xv 197 8,xD 198 4 194 196,xa 199 0 198,xS 1 199 197] (kR [xm 200 4 2,xS 4 4 200,xI 5 0])))))))⟩
theorem c357:chkC Tryz.prog num Tryz.f56.ntmps m357.body ((Tryz.f56.body).getD .skip)=true:=by kernel_rfl
theorem memFull_eq {m:Machine} {i:Nat} {s:Step} (hM:MOk m) (hi:i<m.cores.length) (hs:isMem s.op=true):memFull m i s=(isMem s.op&&!decide (s.op=5)&&within (cellOf (coreAt m i) s) 0 23&&decide ((4000:Int)≤(m.mem.cells.getD (cellOf (coreAt m i) s).toNat []).length)):=by
 unfold memFull
 rw [hs,Bool.true_and]
 cases hw:within (cellOf (coreAt m i) s) 0 23
 ·simp
 ·rw [within_iff] at hw
  have:=(hM.mem.cell (cellOf (coreAt m i) s).toNat (by omega)).2
  congr 1
  rw [decide_eq_decide]
  omega
theorem l8Step_ok (m:Machine) (i:Nat) (late:Int) (hM:MOk m) (hi:i<m.cores.length) (hst:(coreAt m i).st=0) (hc:(mstep m ⟨i,late⟩).2=0) (hl:-(2^63)≤late∧late<2^63) :
  CallOk Tryz.prog num 357 [mchV m,.agg (pickC ⟨i,late⟩)] (mchF m) (.tup [.agg (machineC .own (mstep m ⟨i,late⟩).1),.int .i64 0]):=by
 refine EH m357 Tryz.func56 (hh:=mchF_hb m) ?_
 unfold m357
 have n4:=hM.n4
 have hcl:=hM.cores
 have hj:i<m.codes.length:=by omega
 have hK:=hM.core i hi
 have e1:=hK.at0
 have e2:=hK.at1
 have e4:=hK.regs
 have e6:=hK.view
 have hso:=stepAt_ok hM hi
 have hcg:=qAv .own m.cores i hi
 have gt :∀r,((cores .own m.cores).set i r).getD i []=r:=fun r=>qAb _ _ _ _ (by rw [qAx]; exact hi)
 have gt2 :∀k r,((cores .own (m.cores.set i k)).set i r).getD i []=r:=fun k r=>qAb _ _ _ _ (by rw [qAx,List.length_set]; exact hi)
 have hdg:=qBu .own m.codes i hj
 have gd :∀r,((codes .own m.codes).set i r).getD i []=r:=fun r=>qAb _ _ _ _ (by rw [qBr]; exact hj)
 have hdself:(codes .own m.codes).set i [.sl .own 5 (steps (m.codes.getD i []))]=codes .own m.codes:=by rw [←hdg,qAf _ _ _ (by rw [qBr]; exact hj)]
 have hcself:(cores .own m.cores).set i [.int .i64 (coreAt m i).at_,.sl .own 1 (ints (coreAt m i).regs),.sl .own 1 (ints (coreAt m i).view),.int .i64 (coreAt m i).st]=cores .own m.cores:=by rw [show coreAt m i=m.cores.getD i default from rfl,←hcg,qAf _ _ _ (by rw [qAx]; exact hi)]
 have hsg:=qC6 (m.codes.getD i []) (coreAt m i).at_.toNat (by omega)
 have hl800:(m.codes.getD i []).length≤800:=by
  have:=hK.code
  unfold codeOk at this
  simp only [Bool.and_eq_true,within_iff] at this
  omega
 generalize hkk:coreAt m i=k at *
 have hkk':m.cores.getD i default=k:=hkk
 rw [hkk'] at hcg
 have hss:(m.codes.getD i []).getD k.at_.toNat default=stepAt m i:=by rw [←hkk]; rfl
 rw [hss] at hsg
 generalize hstp:stepAt m i=s at *
 generalize hcd:m.codes.getD i []=cd at *
 have hw1:IntKind.i64.wrap (k.at_+1)=k.at_+1:=qAg (by omega) (by omega)
 obtain ⟨r0,r1,b0,b1,op1,op13,a7⟩:=stepOk_ranges hso
 have rr:s.r.toNat<k.regs.length:=by omega
 have rb:s.b.toNat<k.regs.length:=by omega
 simp only [go_sem,seval,mchV,mchF,hcg,gt,gt2,hdg,gd,hsg,hw1,qA0 k.regs s.r.toNat rr,qA0 k.regs s.b.toNat rb]
 repeat refine K ?_
 by_cases h9:s.op=9
 ·have htr :¬(m.tr.length:Int)=4000:=fun e=>by
   rw [qE2 (late:=late) hkk hstp hi (.inl (.inr ⟨h9,e⟩))] at hc
   simp at hc
  have ra:s.a.toNat<k.regs.length:=by omega
  have hst0:=qB5 (late:=late) hkk hstp hi hst (fun e=>htr e.2) (by simp [isMem,h9])
  have hgo:mdo m i late=goOn ⟨m.codes,m.cores,m.mem,m.tr++[⟨i,k.regs.getD s.a.toNat 0⟩]⟩ i k (k.at_+1):=by
   unfold mdo
   simp [hkk,hstp,h9,isMem,rg]
  have htl:m.tr.length≤4000:=by
   have:=hM.tr
   unfold notesOk at this
   simp only [Bool.and_eq_true,decide_eq_true_eq] at this
   omega
  simp only [go_sem,seval,h9,htr,hcg,gt,gt2,hdg,gd,hsg,hw1,qA0 k.regs s.r.toNat rr,qA0 k.regs s.b.toNat rb,qA0 k.regs s.a.toNat ra]
  repeat refine K ?_
  try simp only [go_sem,seval,h9,htr,hcg,gt,gt2,hdg,gd,hsg,hw1,qA0 k.regs s.r.toNat rr,qA0 k.regs s.b.toNat rb,qA0 k.regs s.a.toNat ra]
  repeat refine K ?_
  by_cases hn:(cd.length:Int)≤k.at_+1
  ·rw [hst0,hgo,qBp (by rw [hcd]; exact hn)]
   simp only [go_sem,seval,hn,hcg,gt,gt2,hdg,gd,hsg,hw1,qA0 k.regs s.r.toNat rr,qA0 k.regs s.b.toNat rb,qA0 k.regs s.a.toNat ra]
   repeat refine K ?_
   apply qAc (by simp)
   ·repeat' ((first | refine FB 1 1 ?_ | refine FB 1 2 ?_ | refine FB 0 0 ?_ | fail); simp only [fS,fS2,fS2,qA,qC,qA3,List.set_set,hdself])
    exact Sub.refl _
   ·simp [-List.drop_one,-gD,qAa,setK,machineC,qA3,hdself,hst,qAn,qAe]<;>(first | rfl | exact ⟨rfl,rfl⟩ | exact ⟨rfl,rfl,rfl⟩ | skip)
  ·rw [hst0,hgo,qBe (by rw [hcd]; exact hn)]
   simp only [go_sem,seval,hn,hcg,gt,gt2,hdg,gd,hsg,hw1,qA0 k.regs s.r.toNat rr,qA0 k.regs s.b.toNat rb,qA0 k.regs s.a.toNat ra]
   repeat refine K ?_
   apply qAc (by simp)
   ·repeat' ((first | refine FB 1 1 ?_ | refine FB 1 2 ?_ | refine FB 0 0 ?_ | fail); simp only [fS,fS2,fS2,qA,qC,qA3,List.set_set,hdself])
    exact Sub.refl _
   ·simp [-List.drop_one,-gD,qAa,setK,machineC,qA3,hdself,hst,qAn,qAe]<;>(first | rfl | exact ⟨rfl,rfl⟩ | exact ⟨rfl,rfl,rfl⟩ | skip)
 have h9' :∀P:Prop,¬(s.op=9∧P):=fun P e=>h9 e.1
 by_cases h1:s.op=1
 ·have ra:s.a.toNat<k.regs.length:=by omega
  have hst0:=qB5 (late:=late) hkk hstp hi hst (h9' _) (by simp [isMem,h1])
  have hgo:mdo m i late=goOn m i ⟨k.at_,k.regs.set s.r.toNat s.n,k.view,k.st⟩ (k.at_+1):=by
   unfold mdo
   simp [hkk,hstp,h1,isMem,alu,nextAt,setR,rg]
  simp only [go_sem,seval,h1,hcg,gt,gt2,hdg,gd,hsg,hw1,qA0 k.regs s.r.toNat rr,qA0 k.regs s.b.toNat rb,qA0 k.regs s.a.toNat ra]
  repeat refine K ?_
  by_cases hn:(cd.length:Int)≤k.at_+1
  ·rw [hst0,hgo,qBp (by rw [hcd]; exact hn)]
   simp only [go_sem,seval,hn,hcg,gt,gt2,hdg,gd,hsg,hw1,qA0 k.regs s.r.toNat rr,qA0 k.regs s.b.toNat rb,qA0 k.regs s.a.toNat ra]
   repeat refine K ?_
   apply qAc (by simp)
   ·repeat' ((first | refine FB 1 1 ?_ | refine FB 1 2 ?_ | refine FB 0 0 ?_ | fail); simp only [fS,fS2,fS2,qA,qC,qA3,List.set_set,hdself])
    exact Sub.refl _
   ·simp [-List.drop_one,-gD,qAa,setK,machineC,qA3,hdself,hst,qAn,qAe]<;>(first | rfl | exact ⟨rfl,rfl⟩ | exact ⟨rfl,rfl,rfl⟩ | skip)
  ·rw [hst0,hgo,qBe (by rw [hcd]; exact hn)]
   simp only [go_sem,seval,hn,hcg,gt,gt2,hdg,gd,hsg,hw1,qA0 k.regs s.r.toNat rr,qA0 k.regs s.b.toNat rb,qA0 k.regs s.a.toNat ra]
   repeat refine K ?_
   apply qAc (by simp)
   ·repeat' ((first | refine FB 1 1 ?_ | refine FB 1 2 ?_ | refine FB 0 0 ?_ | fail); simp only [fS,fS2,fS2,qA,qC,qA3,List.set_set,hdself])
    exact Sub.refl _
   ·simp [-List.drop_one,-gD,qAa,setK,machineC,qA3,hdself,hst,qAn,qAe]<;>(first | rfl | exact ⟨rfl,rfl⟩ | exact ⟨rfl,rfl,rfl⟩ | skip)
 by_cases h2:s.op=2
 ·have ra:s.a.toNat<k.regs.length:=by omega
  have hst0:=qB5 (late:=late) hkk hstp hi hst (h9' _) (by simp [isMem,h2])
  have hgo:mdo m i late=goOn m i ⟨k.at_,k.regs.set s.r.toNat (IntKind.i64.wrap (k.regs.getD s.a.toNat 0+k.regs.getD s.b.toNat 0)),k.view,k.st⟩ (k.at_+1):=by
   unfold mdo
   simp [hkk,hstp,h2,isMem,alu,nextAt,setR,rg]
  simp only [go_sem,seval,h2,hcg,gt,gt2,hdg,gd,hsg,hw1,qA0 k.regs s.r.toNat rr,qA0 k.regs s.b.toNat rb,qA0 k.regs s.a.toNat ra]
  repeat refine K ?_
  by_cases hn:(cd.length:Int)≤k.at_+1
  ·rw [hst0,hgo,qBp (by rw [hcd]; exact hn)]
   simp only [go_sem,seval,hn,hcg,gt,gt2,hdg,gd,hsg,hw1,qA0 k.regs s.r.toNat rr,qA0 k.regs s.b.toNat rb,qA0 k.regs s.a.toNat ra]
   repeat refine K ?_
   apply qAc (by simp)
   ·repeat' ((first | refine FB 1 1 ?_ | refine FB 1 2 ?_ | refine FB 0 0 ?_ | fail); simp only [fS,fS2,fS2,qA,qC,qA3,List.set_set,hdself])
    exact Sub.refl _
   ·simp [-List.drop_one,-gD,qAa,setK,machineC,qA3,hdself,hst,qAn,qAe]<;>(first | rfl | exact ⟨rfl,rfl⟩ | exact ⟨rfl,rfl,rfl⟩ | skip)
  ·rw [hst0,hgo,qBe (by rw [hcd]; exact hn)]
   simp only [go_sem,seval,hn,hcg,gt,gt2,hdg,gd,hsg,hw1,qA0 k.regs s.r.toNat rr,qA0 k.regs s.b.toNat rb,qA0 k.regs s.a.toNat ra]
   repeat refine K ?_
   apply qAc (by simp)
   ·repeat' ((first | refine FB 1 1 ?_ | refine FB 1 2 ?_ | refine FB 0 0 ?_ | fail); simp only [fS,fS2,fS2,qA,qC,qA3,List.set_set,hdself])
    exact Sub.refl _
   ·simp [-List.drop_one,-gD,qAa,setK,machineC,qA3,hdself,hst,qAn,qAe]<;>(first | rfl | exact ⟨rfl,rfl⟩ | exact ⟨rfl,rfl,rfl⟩ | skip)
 by_cases h3:s.op=3
 ·have ra:s.a.toNat<k.regs.length:=by omega
  have hst0:=qB5 (late:=late) hkk hstp hi hst (h9' _) (by simp [isMem,h3])
  have hgo:mdo m i late=goOn m i ⟨k.at_,k.regs.set s.r.toNat (IntKind.i64.wrap (k.regs.getD s.a.toNat 0-k.regs.getD s.b.toNat 0)),k.view,k.st⟩ (k.at_+1):=by
   unfold mdo
   simp [hkk,hstp,h3,isMem,alu,nextAt,setR,rg]
  simp only [go_sem,seval,h3,hcg,gt,gt2,hdg,gd,hsg,hw1,qA0 k.regs s.r.toNat rr,qA0 k.regs s.b.toNat rb,qA0 k.regs s.a.toNat ra]
  repeat refine K ?_
  by_cases hn:(cd.length:Int)≤k.at_+1
  ·rw [hst0,hgo,qBp (by rw [hcd]; exact hn)]
   simp only [go_sem,seval,hn,hcg,gt,gt2,hdg,gd,hsg,hw1,qA0 k.regs s.r.toNat rr,qA0 k.regs s.b.toNat rb,qA0 k.regs s.a.toNat ra]
   repeat refine K ?_
   apply qAc (by simp)
   ·repeat' ((first | refine FB 1 1 ?_ | refine FB 1 2 ?_ | refine FB 0 0 ?_ | fail); simp only [fS,fS2,fS2,qA,qC,qA3,List.set_set,hdself])
    exact Sub.refl _
   ·simp [-List.drop_one,-gD,qAa,setK,machineC,qA3,hdself,hst,qAn,qAe]<;>(first | rfl | exact ⟨rfl,rfl⟩ | exact ⟨rfl,rfl,rfl⟩ | skip)
  ·rw [hst0,hgo,qBe (by rw [hcd]; exact hn)]
   simp only [go_sem,seval,hn,hcg,gt,gt2,hdg,gd,hsg,hw1,qA0 k.regs s.r.toNat rr,qA0 k.regs s.b.toNat rb,qA0 k.regs s.a.toNat ra]
   repeat refine K ?_
   apply qAc (by simp)
   ·repeat' ((first | refine FB 1 1 ?_ | refine FB 1 2 ?_ | refine FB 0 0 ?_ | fail); simp only [fS,fS2,fS2,qA,qC,qA3,List.set_set,hdself])
    exact Sub.refl _
   ·simp [-List.drop_one,-gD,qAa,setK,machineC,qA3,hdself,hst,qAn,qAe]<;>(first | rfl | exact ⟨rfl,rfl⟩ | exact ⟨rfl,rfl,rfl⟩ | skip)
 by_cases h4:s.op=4
 ·have ra:s.a.toNat<k.regs.length:=by omega
  have hst0:=qB5 (late:=late) hkk hstp hi hst (h9' _) (by simp [isMem,h4])
  have hgo:mdo m i late=goOn m i ⟨k.at_,k.regs.set s.r.toNat (numb (decide (k.regs.getD s.a.toNat 0<k.regs.getD s.b.toNat 0))),k.view,k.st⟩ (k.at_+1):=by
   unfold mdo
   simp [hkk,hstp,h4,isMem,alu,nextAt,setR,rg]
  simp only [go_sem,seval,h4,hcg,gt,gt2,hdg,gd,hsg,hw1,qA0 k.regs s.r.toNat rr,qA0 k.regs s.b.toNat rb,qA0 k.regs s.a.toNat ra]
  repeat refine K ?_
  refine DA [] (l4Bit_ok (decide (k.regs.getD s.a.toNat 0<k.regs.getD s.b.toNat 0))) ?_
  try simp only [go_sem,seval]
  repeat refine K ?_
  try simp only [go_sem,seval,h4,hcg,gt,gt2,hdg,gd,hsg,hw1,qA0 k.regs s.r.toNat rr,qA0 k.regs s.b.toNat rb,qA0 k.regs s.a.toNat ra]
  repeat refine K ?_
  by_cases hn:(cd.length:Int)≤k.at_+1
  ·rw [hst0,hgo,qBp (by rw [hcd]; exact hn)]
   simp only [go_sem,seval,hn,hcg,gt,gt2,hdg,gd,hsg,hw1,qA0 k.regs s.r.toNat rr,qA0 k.regs s.b.toNat rb,qA0 k.regs s.a.toNat ra]
   repeat refine K ?_
   apply qAc (by simp)
   ·repeat' ((first | refine FB 1 1 ?_ | refine FB 1 2 ?_ | refine FB 0 0 ?_ | fail); simp only [fS,fS2,fS2,qA,qC,qA3,List.set_set,hdself])
    exact Sub.refl _
   ·simp [-List.drop_one,-gD,qAa,setK,machineC,qA3,hdself,hst,qAn,qAe]<;>(first | rfl | exact ⟨rfl,rfl⟩ | exact ⟨rfl,rfl,rfl⟩ | skip)
  ·rw [hst0,hgo,qBe (by rw [hcd]; exact hn)]
   simp only [go_sem,seval,hn,hcg,gt,gt2,hdg,gd,hsg,hw1,qA0 k.regs s.r.toNat rr,qA0 k.regs s.b.toNat rb,qA0 k.regs s.a.toNat ra]
   repeat refine K ?_
   apply qAc (by simp)
   ·repeat' ((first | refine FB 1 1 ?_ | refine FB 1 2 ?_ | refine FB 0 0 ?_ | fail); simp only [fS,fS2,fS2,qA,qC,qA3,List.set_set,hdself])
    exact Sub.refl _
   ·simp [-List.drop_one,-gD,qAa,setK,machineC,qA3,hdself,hst,qAn,qAe]<;>(first | rfl | exact ⟨rfl,rfl⟩ | exact ⟨rfl,rfl,rfl⟩ | skip)
 by_cases h10:s.op=10
 ·have hst0:=qB5 (late:=late) hkk hstp hi hst (h9' _) (by simp [isMem,h10])
  have hgo:mdo m i late=goOn m i k s.n:=by
   unfold mdo
   simp [hkk,hstp,h10,isMem,alu,nextAt]
  simp only [go_sem,seval,h10,h9,hcg,gt,gt2,hdg,gd,hsg,hw1,qA0 k.regs s.r.toNat rr,qA0 k.regs s.b.toNat rb]
  repeat refine K ?_
  by_cases hn:(cd.length:Int)≤s.n
  ·rw [hst0,hgo,qBp (by rw [hcd]; exact hn)]
   simp only [go_sem,seval,hn,hcg,gt,gt2,hdg,gd,hsg,hw1,qA0 k.regs s.r.toNat rr,qA0 k.regs s.b.toNat rb]
   repeat refine K ?_
   apply qAc (by simp)
   ·repeat' ((first | refine FB 1 1 ?_ | refine FB 1 2 ?_ | refine FB 0 0 ?_ | fail); simp only [fS,fS2,fS2,qA,qC,qA3,List.set_set,hdself])
    exact Sub.refl _
   ·simp [-List.drop_one,-gD,qAa,setK,machineC,qA3,hdself,hst,qAn,qAe]<;>(first | rfl | exact ⟨rfl,rfl⟩ | exact ⟨rfl,rfl,rfl⟩ | skip)
  ·rw [hst0,hgo,qBe (by rw [hcd]; exact hn)]
   simp only [go_sem,seval,hn,hcg,gt,gt2,hdg,gd,hsg,hw1,qA0 k.regs s.r.toNat rr,qA0 k.regs s.b.toNat rb]
   repeat refine K ?_
   apply qAc (by simp)
   ·repeat' ((first | refine FB 1 1 ?_ | refine FB 1 2 ?_ | refine FB 0 0 ?_ | fail); simp only [fS,fS2,fS2,qA,qC,qA3,List.set_set,hdself])
    exact Sub.refl _
   ·simp [-List.drop_one,-gD,qAa,setK,machineC,qA3,hdself,hst,qAn,qAe]<;>(first | rfl | exact ⟨rfl,rfl⟩ | exact ⟨rfl,rfl,rfl⟩ | skip)
 by_cases h11:s.op=11
 ·have ra:s.a.toNat<k.regs.length:=by omega
  have hst0:=qB5 (late:=late) hkk hstp hi hst (h9' _) (by simp [isMem,h11])
  simp only [go_sem,seval,h11,h9,hcg,gt,gt2,hdg,gd,hsg,hw1,qA0 k.regs s.r.toNat rr,qA0 k.regs s.b.toNat rb,qA0 k.regs s.a.toNat ra]
  repeat refine K ?_
  by_cases hz:k.regs.getD s.a.toNat 0=0
  ·have hgo:mdo m i late=goOn m i k s.n:=by
    unfold mdo
    rw [hkk,hstp]
    simp only [h11,isMem,alu,nextAt,rg,hz]
    simp
   try simp only [go_sem,seval,h11,hz,hcg,gt,gt2,hdg,gd,hsg,hw1,qA0 k.regs s.r.toNat rr,qA0 k.regs s.b.toNat rb,qA0 k.regs s.a.toNat ra]
   repeat refine K ?_
   by_cases hn:(cd.length:Int)≤s.n
   ·rw [hst0,hgo,qBp (by rw [hcd]; exact hn)]
    simp only [go_sem,seval,hn,hcg,gt,gt2,hdg,gd,hsg,hw1,qA0 k.regs s.r.toNat rr,qA0 k.regs s.b.toNat rb,qA0 k.regs s.a.toNat ra]
    repeat refine K ?_
    apply qAc (by simp)
    ·repeat' ((first | refine FB 1 1 ?_ | refine FB 1 2 ?_ | refine FB 0 0 ?_ | fail); simp only [fS,fS2,fS2,qA,qC,qA3,List.set_set,hdself])
     exact Sub.refl _
    ·simp [-List.drop_one,-gD,qAa,setK,machineC,qA3,hdself,hst,qAn,qAe]<;>(first | rfl | exact ⟨rfl,rfl⟩ | exact ⟨rfl,rfl,rfl⟩ | skip)
   ·rw [hst0,hgo,qBe (by rw [hcd]; exact hn)]
    simp only [go_sem,seval,hn,hcg,gt,gt2,hdg,gd,hsg,hw1,qA0 k.regs s.r.toNat rr,qA0 k.regs s.b.toNat rb,qA0 k.regs s.a.toNat ra]
    repeat refine K ?_
    apply qAc (by simp)
    ·repeat' ((first | refine FB 1 1 ?_ | refine FB 1 2 ?_ | refine FB 0 0 ?_ | fail); simp only [fS,fS2,fS2,qA,qC,qA3,List.set_set,hdself])
     exact Sub.refl _
    ·simp [-List.drop_one,-gD,qAa,setK,machineC,qA3,hdself,hst,qAn,qAe]<;>(first | rfl | exact ⟨rfl,rfl⟩ | exact ⟨rfl,rfl,rfl⟩ | skip)
  ·have hgo:mdo m i late=goOn m i k (k.at_+1):=by
    unfold mdo
    rw [hkk,hstp]
    simp only [h11,isMem,alu,nextAt,rg,hz]
    simp
   try simp only [go_sem,seval,h11,hz,hcg,gt,gt2,hdg,gd,hsg,hw1,qA0 k.regs s.r.toNat rr,qA0 k.regs s.b.toNat rb,qA0 k.regs s.a.toNat ra]
   repeat refine K ?_
   by_cases hn:(cd.length:Int)≤k.at_+1
   ·rw [hst0,hgo,qBp (by rw [hcd]; exact hn)]
    simp only [go_sem,seval,hn,hcg,gt,gt2,hdg,gd,hsg,hw1,qA0 k.regs s.r.toNat rr,qA0 k.regs s.b.toNat rb,qA0 k.regs s.a.toNat ra]
    repeat refine K ?_
    apply qAc (by simp)
    ·repeat' ((first | refine FB 1 1 ?_ | refine FB 1 2 ?_ | refine FB 0 0 ?_ | fail); simp only [fS,fS2,fS2,qA,qC,qA3,List.set_set,hdself])
     exact Sub.refl _
    ·simp [-List.drop_one,-gD,qAa,setK,machineC,qA3,hdself,hst,qAn,qAe]<;>(first | rfl | exact ⟨rfl,rfl⟩ | exact ⟨rfl,rfl,rfl⟩ | skip)
   ·rw [hst0,hgo,qBe (by rw [hcd]; exact hn)]
    simp only [go_sem,seval,hn,hcg,gt,gt2,hdg,gd,hsg,hw1,qA0 k.regs s.r.toNat rr,qA0 k.regs s.b.toNat rb,qA0 k.regs s.a.toNat ra]
    repeat refine K ?_
    apply qAc (by simp)
    ·repeat' ((first | refine FB 1 1 ?_ | refine FB 1 2 ?_ | refine FB 0 0 ?_ | fail); simp only [fS,fS2,fS2,qA,qC,qA3,List.set_set,hdself])
     exact Sub.refl _
    ·simp [-List.drop_one,-gD,qAa,setK,machineC,qA3,hdself,hst,qAn,qAe]<;>(first | rfl | exact ⟨rfl,rfl⟩ | exact ⟨rfl,rfl,rfl⟩ | skip)
 by_cases h12:s.op=12
 ·have hst0:=qB5 (late:=late) hkk hstp hi hst (h9' _) (by simp [isMem,h12])
  have hgo:mdo m i late=setK m i ⟨k.at_,k.regs,k.view,1⟩:=by
   unfold mdo
   simp [hkk,hstp,h12,stop]
  rw [hst0,hgo]
  simp only [go_sem,seval,h12,h9,hcg,gt,gt2,hdg,gd,hsg,hw1,qA0 k.regs s.r.toNat rr,qA0 k.regs s.b.toNat rb]
  repeat refine K ?_
  apply qAc (by simp)
  ·repeat' ((first | refine FB 1 1 ?_ | refine FB 1 2 ?_ | refine FB 0 0 ?_ | fail); simp only [fS,fS2,fS2,qA,qC,qA3,List.set_set,hdself])
   exact Sub.refl _
  ·simp [-List.drop_one,-gD,qAa,setK,machineC,qA3,hdself,hst,hgo]<;>(first | rfl | exact ⟨rfl,rfl⟩ | exact ⟨rfl,rfl,rfl⟩ | skip)
 by_cases h13:s.op=13
 ·have hst0:=qB5 (late:=late) hkk hstp hi hst (h9' _) (by simp [isMem,h13])
  have hgo:mdo m i late=setK m i ⟨k.at_,k.regs,k.view,2⟩:=by
   unfold mdo
   simp [hkk,hstp,h13,stop]
  rw [hst0,hgo]
  simp only [go_sem,seval,h13,h9,hcg,gt,gt2,hdg,gd,hsg,hw1,qA0 k.regs s.r.toNat rr,qA0 k.regs s.b.toNat rb]
  repeat refine K ?_
  apply qAc (by simp)
  ·repeat' ((first | refine FB 1 1 ?_ | refine FB 1 2 ?_ | refine FB 0 0 ?_ | fail); simp only [fS,fS2,fS2,qA,qC,qA3,List.set_set,hdself])
   exact Sub.refl _
  ·simp [-List.drop_one,-gD,qAa,setK,machineC,qA3,hdself,hst,hgo]<;>(first | rfl | exact ⟨rfl,rfl⟩ | exact ⟨rfl,rfl,rfl⟩ | skip)
 have hop:s.op=5∨s.op=6∨s.op=7∨s.op=8:=by omega
 have hmm:isMem s.op=true:=by rcases hop with h | h | h | h<;>simp [isMem,h]
 have hmf:=memFull_eq hM hi hmm
 rw [hkk] at hmf
 have hnf:memFull m i s=false:=by
  rw [hmf]
  cases hq:(isMem s.op&&!decide (s.op=5)&&within (cellOf k s) 0 23&&decide ((4000:Int)≤(m.mem.cells.getD (cellOf k s).toNat []).length)) with
  | false=>rfl
  | true =>
   rw [qE2 (late:=late) hkk hstp hi (.inr hq)] at hc
   simp at hc
 have hst0:=qB5 (late:=late) hkk hstp hi hst (h9' _) (by rw [←hmf]; exact hnf)
 have hmd:=l8Memory_ok m i late s hM.mem hi (by rw [hkk]; exact e4) (by rw [hkk]; exact e6) hl r0 r1 b0 b1 (by omega) hop hnf
 have hself:m.cores.set i ⟨k.at_,k.regs,k.view,k.st⟩=m.cores:=by rw [←hkk']; exact qAf _ _ _ hi
 simp only [go_sem,seval,h1,h2,h3,h4,h9,h10,h11,h12,h13,hcg,gt,gt2,hdg,gd,hsg,hw1,qA0 k.regs s.r.toNat rr,qA0 k.regs s.b.toNat rb]
 repeat refine K ?_
 apply qBj
 ·refine FA 1 1 13 ?_
  simp only [fS,fS2,fS2,qA,qC,qA3,List.set_set]
  refine FA 1 2 14 ?_
  simp only [fS,fS2,fS2,qA,qC,hcself,qA3,List.set_set]
  refine FA 0 0 16 ?_
  simp only [fS,fS2,fS2,qA,qC,hdself]
  exact Sub.refl _
 refine CA [(0,0),(1,1),(2,2),(3,3)] (hmd) ?_
 try simp only [go_sem,seval]
 repeat refine K ?_
 cases hin:within (cellOf k s) 0 23
 ·have hmo:memDo m i s late=(m,false):=by
   unfold memDo
   rw [hkk,hin]
   rfl
  have hgo:mdo m i late=setK m i ⟨k.at_,k.regs,k.view,2⟩:=by
   unfold mdo
   rw [hkk,hstp]
   simp only [h12,h13,hmm,hin,if_true,if_false,stop,hkk]
   simp
  rw [hmo,hst0,hgo]
  try simp only [go_sem,seval,hin,hcg,gt,gt2,hdg,gd,hsg,hw1,qA0 k.regs s.r.toNat rr,qA0 k.regs s.b.toNat rb]
  repeat refine K ?_
  apply qAc (by simp)
  ·repeat' ((first | refine FB 19 1 ?_ | fail); simp only [fS,fS2,fS2,qA,qC,qA3,List.set_set,hdself,hself])
   exact Sub.refl _
  ·simp [-List.drop_one,-gD,qAa,setK,machineC,qA3,hdself,hst,hgo]<;>(first | rfl | exact ⟨rfl,rfl⟩ | exact ⟨rfl,rfl,rfl⟩ | skip)
 obtain ⟨c,hcc⟩:=Int.eq_ofNat_of_zero_le (within_iff.1 hin).1
 have hgo:mdo m i late=goOn ⟨m.codes,m.cores,⟨(access m.mem.cells k s c late).1⟩,m.tr⟩ i (access m.mem.cells k s c late).2 (k.at_+1):=by
  unfold mdo
  rw [hkk,hstp]
  rw [hcc] at hin
  simp only [h12,h13,hmm,hcc,hin,if_true,if_false,Int.toNat_natCast]
 have hmo:memDo m i s late=(⟨m.codes,m.cores.set i (access m.mem.cells k s c late).2,⟨(access m.mem.cells k s c late).1⟩,m.tr⟩,true):=by
  unfold memDo
  rw [hkk,hin,hcc]
  rfl
 rw [hmo]
 generalize hacc:access m.mem.cells k s c late=r at *
 have hcg2:=qAv .own (m.cores.set i r.2) i (by rw [List.length_set]; exact hi)
 rw [qAb _ _ _ _ hi] at hcg2
 try simp only [go_sem,seval,hcg2,hcg,gt,gt2,hdg,gd,hsg,hw1,qA0 k.regs s.r.toNat rr,qA0 k.regs s.b.toNat rb]
 repeat refine K ?_
 by_cases hn:(cd.length:Int)≤k.at_+1
 ·rw [hst0,hgo,qBp (m:=⟨m.codes,m.cores,⟨r.1⟩,m.tr⟩) (show _ by simp only [hcd]; exact hn)]
  simp only [go_sem,seval,hn,hcg2,hcg,gt,gt2,hdg,gd,hsg,hw1,qA0 k.regs s.r.toNat rr,qA0 k.regs s.b.toNat rb]
  repeat refine K ?_
  apply qAc (by simp)
  ·repeat' ((first | refine FB 18 0 ?_ | fail); simp only [fS,fS2,fS2,qA,qC,qA3,List.set_set,hdself])
   exact Sub.refl _
  ·simp [-List.drop_one,-gD,qAa,setK,machineC,qA3,hdself,hst,qAn,qAe,List.set_set]<;>(first | rfl | exact ⟨rfl,rfl⟩ | exact ⟨rfl,rfl,rfl⟩ | skip)
 ·rw [hst0,hgo,qBe (m:=⟨m.codes,m.cores,⟨r.1⟩,m.tr⟩) (show _ by simp only [hcd]; exact hn)]
  simp only [go_sem,seval,hn,hcg2,hcg,gt,gt2,hdg,gd,hsg,hw1,qA0 k.regs s.r.toNat rr,qA0 k.regs s.b.toNat rb]
  repeat refine K ?_
  apply qAc (by simp)
  ·repeat' ((first | refine FB 18 0 ?_ | fail); simp only [fS,fS2,fS2,qA,qC,qA3,List.set_set,hdself])
   exact Sub.refl _
  ·simp [-List.drop_one,-gD,qAa,setK,machineC,qA3,hdself,hst,qAn,qAe,List.set_set]<;>(first | rfl | exact ⟨rfl,rfl⟩ | exact ⟨rfl,rfl,rfl⟩ | skip)
theorem l8StepB_ok (m:Machine) (i:Nat) (late:Int) (hM:MOk m) (hi:i<m.cores.length) (hst:(coreAt m i).st=0) (hc:(mstep m ⟨i,late⟩).2≠0) (hl:-(2^63)≤late∧late<2^63) :
  CallOk Tryz.prog num 357 [mchV m,.agg (pickC ⟨i,late⟩)] (mchK m) (.tup [mchV m,.int .i64 3]):=by
 refine enterK (m:=m357) (f:=357) (fn:=Tryz.f56) Tryz.func56 (by kernel_rfl) rfl c357 rfl (by simp [Tryz.f56]) (by simp [bnds,bnd,nf_sl,nf_int,nf_bool,nf_str,qAo]) (mchK_hb m) ?_
 unfold m357
 have n4:=hM.n4
 have hcl:=hM.cores
 have hj:i<m.codes.length:=by omega
 have hK:=hM.core i hi
 have e1:=hK.at0
 have e2:=hK.at1
 have e4:=hK.regs
 have e6:=hK.view
 have hso:=stepAt_ok hM hi
 have hcg:=qAv .own m.cores i hi
 have gt :∀r,((cores .own m.cores).set i r).getD i []=r:=fun r=>qAb _ _ _ _ (by rw [qAx]; exact hi)
 have gt2 :∀k r,((cores .own (m.cores.set i k)).set i r).getD i []=r:=fun k r=>qAb _ _ _ _ (by rw [qAx,List.length_set]; exact hi)
 have hdg:=qBu .own m.codes i hj
 have gd :∀r,((codes .own m.codes).set i r).getD i []=r:=fun r=>qAb _ _ _ _ (by rw [qBr]; exact hj)
 have hdself:(codes .own m.codes).set i [.sl .own 5 (steps (m.codes.getD i []))]=codes .own m.codes:=by rw [←hdg,qAf _ _ _ (by rw [qBr]; exact hj)]
 have hcself:(cores .own m.cores).set i [.int .i64 (coreAt m i).at_,.sl .own 1 (ints (coreAt m i).regs),.sl .own 1 (ints (coreAt m i).view),.int .i64 (coreAt m i).st]=cores .own m.cores:=by rw [show coreAt m i=m.cores.getD i default from rfl,←hcg,qAf _ _ _ (by rw [qAx]; exact hi)]
 have hsg:=qC6 (m.codes.getD i []) (coreAt m i).at_.toNat (by omega)
 have hl800:(m.codes.getD i []).length≤800:=by
  have:=hK.code
  unfold codeOk at this
  simp only [Bool.and_eq_true,within_iff] at this
  omega
 generalize hkk:coreAt m i=k at *
 have hkk':m.cores.getD i default=k:=hkk
 rw [hkk'] at hcg
 have hss:(m.codes.getD i []).getD k.at_.toNat default=stepAt m i:=by rw [←hkk]; rfl
 rw [hss] at hsg
 generalize hstp:stepAt m i=s at *
 generalize hcd:m.codes.getD i []=cd at *
 have hw1:IntKind.i64.wrap (k.at_+1)=k.at_+1:=qAg (by omega) (by omega)
 obtain ⟨r0,r1,b0,b1,op1,op13,a7⟩:=stepOk_ranges hso
 have rr:s.r.toNat<k.regs.length:=by omega
 have rb:s.b.toNat<k.regs.length:=by omega
 have hself:m.cores.set i ⟨k.at_,k.regs,k.view,k.st⟩=m.cores:=by rw [←hkk']; exact qAf _ _ _ hi
 simp only [go_sem,seval,mchV,mchK,hcg,gt,gt2,hdg,gd,hsg,hw1,qA0 k.regs s.r.toNat rr,qA0 k.regs s.b.toNat rb]
 repeat refine K ?_
 by_cases h9:s.op=9
 ·have htr:(m.tr.length:Int)=4000:=by
   apply Decidable.byContradiction
   intro e
   rw [qB5 (late:=late) hkk hstp hi hst (fun h=>e h.2) (by simp [isMem,h9])] at hc
   exact hc rfl
  simp only [go_sem,seval,h9,htr,hcg,gt,gt2,hdg,gd,hsg,hw1,qA0 k.regs s.r.toNat rr,qA0 k.regs s.b.toNat rb]
  repeat refine K ?_
  apply finK_tup (by simp)
  ·repeat' ((first | refine FB 1 1 ?_ | refine FB 1 2 ?_ | refine FB 0 0 ?_ | fail); simp only [fS,fS2,fS2,qA,qC,qA3,List.set_set,hdself,hself,hcself])
   exact Sub.refl _
  ·simp [-List.drop_one,-gD,qAa,setK,machineC,qA3,hdself,hst,hself]<;>(first | rfl | exact ⟨rfl,rfl⟩ | exact ⟨rfl,rfl,rfl⟩ | skip)
 have h9' :∀P:Prop,¬(s.op=9∧P):=fun P e=>h9 e.1
 have hfull:(isMem s.op&&!decide (s.op=5)&&within (cellOf k s) 0 23&&decide ((4000:Int)≤(m.mem.cells.getD (cellOf k s).toNat []).length))=true:=by
  cases hq:(isMem s.op&&!decide (s.op=5)&&within (cellOf k s) 0 23&&decide ((4000:Int)≤(m.mem.cells.getD (cellOf k s).toNat []).length)) with
  | true=>rfl
  | false =>
   rw [qB5 (late:=late) hkk hstp hi hst (h9' _) hq] at hc
   exact absurd rfl hc
 have hmm:isMem s.op=true:=by
  simp only [Bool.and_eq_true] at hfull
  exact hfull.1.1.1
 have hop:s.op=5∨s.op=6∨s.op=7∨s.op=8:=by
  simp only [isMem,Bool.or_eq_true,decide_eq_true_eq] at hmm
  omega
 have hmf:=memFull_eq hM hi hmm
 rw [hkk,hfull] at hmf
 have hmd:=l8MemoryFull_ok m i late s hM.mem hi (by rw [hkk]; exact e4) (by rw [hkk]; exact e6) hl r0 r1 b0 b1 (by omega) hop hmf
 have h1 :¬s.op=1:=by omega
 have h2 :¬s.op=2:=by omega
 have h3 :¬s.op=3:=by omega
 have h4 :¬s.op=4:=by omega
 have h10 :¬s.op=10:=by omega
 have h11 :¬s.op=11:=by omega
 have h12 :¬s.op=12:=by omega
 have h13 :¬s.op=13:=by omega
 simp only [go_sem,seval,h1,h2,h3,h4,h9,h10,h11,h12,h13,hcg,gt,gt2,hdg,gd,hsg,hw1,qA0 k.regs s.r.toNat rr,qA0 k.regs s.b.toNat rb]
 repeat refine K ?_
 apply qBj
 ·refine FA 1 1 13 ?_
  simp only [fS,fS2,fS2,qA,qC,qA3,List.set_set]
  refine FA 1 2 14 ?_
  simp only [fS,fS2,fS2,qA,qC,hcself,qA3,List.set_set]
  refine FA 0 0 16 ?_
  simp only [fS,fS2,fS2,qA,qC,hdself]
  exact Sub.refl _
 refine CA [(0,0),(1,1),(2,2),(3,3)] (hmd) ?_
 try simp only [go_sem,seval]
 repeat refine K ?_
 try simp only [go_sem,seval,hcg,gt,gt2,hdg,gd,hsg,hw1,qA0 k.regs s.r.toNat rr,qA0 k.regs s.b.toNat rb]
 repeat refine K ?_
 apply finK_tup (by simp)
 ·repeat' ((first | refine FB 1 1 ?_ | refine FB 1 2 ?_ | refine FB 0 0 ?_ | fail); simp only [fS,fS2,fS2,qA,qC,qA3,List.set_set,hdself,hself,hcself])
  exact Sub.refl _
 ·simp [-List.drop_one,-gD,qAa,setK,machineC,qA3,hdself,hst,hself]<;>(first | rfl | exact ⟨rfl,rfl⟩ | exact ⟨rfl,rfl,rfl⟩ | skip)
def pkOk (x:Pick):Prop:=-(2^63)≤x.late∧x.late<2^63
theorem mstep_none {m:Machine} {x:Pick} (h:within x.who 0 (m.cores.length-1)=false):mstep m x=(m,2):=by
 have hc:mcode m x.who=2:=by
  unfold mcode
  rw [h]
  rfl
 unfold mstep
 rw [hc]
 rfl
theorem mstep_three {m:Machine} {i:Nat} {late:Int} (hi:i<m.cores.length) (hc:(mstep m ⟨i,late⟩).2≠0):(mstep m ⟨i,late⟩).2=3:=by
 have hw:within (i:Int) 0 ((m.cores.length:Int)-1)=true:=by rw [within_iff]; omega
 unfold mstep at hc⊢
 simp only at hc⊢
 by_cases h0:mcode m (i:Int)=0
 ·rw [if_pos h0] at hc
  exact absurd rfl hc
 rw [if_neg h0]
 show mcode m (i:Int)=3
 unfold mcode at h0⊢
 rw [if_pos hw] at h0⊢
 dsimp only at h0⊢
 split
 ·rfl
 ·rename_i h1
  rw [if_neg h1] at h0
  split
  ·rfl
  ·rename_i h2
   rw [if_neg h2] at h0
   exact absurd rfl h0
theorem take_mrun (m:Machine) (l:List Pick) (i:Nat) (h:i<l.length):mrun m (l.take (i+1))=(mstep (mrun m (l.take i)) (l.getD i default)).1:=by
 rw [qBm l default i h,mrun_snoc]
def m428:MFn:=⟨57,[.t 6,.t 7],kr [xb 3 0,xb 5 2,xI 6 0,xF 7] (.seq (kr [xv 10 1,xa 11 0 5,xl 12 11,xc2 13 229 (.t 10) (.t 12),xN 14 13] (kF 14 [xI 6 2,xF 7])) (.seq (.dreg (.take 0 (xv 15 1) (.take 1 (xk 16 15) (.take 2 (xa 17 1 16) (.take 3 (xl 18 17) (.only 4 [] (xa 19 0 5) (.only 5 [] (xl 20 19) (.only 6 [3,2,1,0] (xD 21 4 18 20) (.only 7 [6,3,2,1,0] (xa 22 0 21) (.only 8 [7,6,3,2,1,0] (xl 23 22) (.only 9 [0,1,2,3] (xv 8 23) (.done)))))))))))) (kr [xv 24 1,xm 25 2 5,xo 26 (.call 359 [true,false] [.t 24,.t 25]),xv 9 26] (.seq (.dreg (.take 0 (xv 27 9) (.only 1 [] (xv 28 9) (.only 2 [] (bI 29 .eql 28 0) (.only 3 [] (xv 30 29) (.take 4 (xg 31 (.load 2 true (.t 3)) 30 true) (.take 5 (yv 32 1 30) (.take 6 (xg 33 (.nilck (.t 32)) 30 true) (.take 7 (ya 34 0 33 30) (.take 8 (yl 35 1 34 30) (.take 9 (ya 36 0 5 30) (.take 10 (yl 37 1 36 30) (.take 11 (xg 38 (.iad 1 (.t 35) (.t 37)) 30 true) (.take 12 (yl 39 1 38 30) (.take 13 (yv 40 8 30) (.take 14 (xg 41 (.iad 5 (.t 39) (.t 40)) 30 true) (.take 15 (xg 42 (.load 5 true (.t 41)) 30 true) (.take 16 (yv 43 1 30) (.take 17 (xg 44 (.nilck (.t 43)) 30 true) (.take 18 (ya 45 1 44 30) (.take 19 (yl 46 1 45 30) (.take 20 (ya 47 0 5 30) (.take 21 (yl 48 1 47 30) (.take 22 (xg 49 (.iad 4 (.t 46) (.t 48)) 30 true) (.take 23 (ya 50 1 49 30) (.take 24 (yl 51 1 50 30) (.take 25 (ya 52 0 5 30) (.take 26 (yl 53 1 52 30) (.only 27 [] (yv 54 8 30) (.only 28 [4,15,24,26,14,23,25,12,13,22,11,19,21,8,10,18,20,7,9,17,6,16,5] (xg 55 (.call 236 [false,false,false,false,false] [.t 31,.t 42,.t 51,.t 53,.t 54]) 30 true) (.take 29 (xP 56 30 55) (.only 30 [0,28,4,15,24,26,14,23,25,12,13,22,11,19,21,8,10,18,20,7,9,17,6,16,5] (xv 6 27) (.only 31 [0,4,5,6,7,8,9,10,11,12,13,14,15,16,17,18,19,20,21,22,23,24,25,26,29] (xv 7 56) (.done)))))))))))))))))))))))))))))))))) (.ret)))))⟩
theorem implWitnessed_ok (p:Prog) (m:Machine) (x:Pick) (hp:SmallP p) (h:machineOk m=true) (hx:pkOk x):CallOk Tryz.prog num 428 [.agg (progC .bw p),.ptr 0 0 0,.agg (pickC x)] [(0,some (4,[machineC .own m]),some (4,[machineC .own (mstep m x).1]))] (.tup [.int .i64 (mstep m x).2,.bool (did p m x)]):=by
 refine EH m428 Tryz.func116 ?_
 unfold m428
 have hM:=(qC0 m).1 h
 have hc0:=hM.cores
 have hn4:=hM.n4
 simp only [go_sem,seval]
 repeat refine K ?_
 refine CA [] (isCore_ok m x.who (by omega)) ?_
 try simp only [go_sem,seval]
 repeat refine K ?_
 cases hw:within x.who 0 (m.cores.length-1)
 ·have hn:mstep m x=(m,2):=mstep_none hw
  have hd:did p m x=false:=by unfold did; rw [hn]; rfl
  rw [hn,hd]
  try simp only [go_sem,seval,hw]
  repeat refine K ?_
  apply qAc (by simp)
  ·exact Sub.refl _
  ·simp [-List.drop_one,-gD,machineC]<;>(first | rfl | exact ⟨rfl,rfl⟩ | exact ⟨rfl,rfl,rfl⟩ | skip)
 have hw':=within_iff.1 hw
 obtain ⟨j,hj⟩:=Int.eq_ofNat_of_zero_le hw'.1
 obtain ⟨who,late⟩:=x
 simp only at hj hw'
 subst hj
 have hjl:j<m.cores.length:=by omega
 have hcg:=qAv .own m.cores j hjl
 have hk:m.cores.getD j default=coreAt m j:=rfl
 rw [hk] at hcg
 try simp only [go_sem,seval,hw,hcg]
 repeat refine K ?_
 apply qBj
 ·refine Sub.trans (Sub.fold1 0 1 12 rfl (by simp [-gD]<;>omega) rfl (by decide) (by decide) rfl) ?_
  simp only [fS,fS2,qA,qC]
  exact Sub.refl _
 refine CA [(0,0)] (implStep_ok m ⟨j,late⟩ h hx) ?_
 try simp only [go_sem,seval]
 repeat refine K ?_
 have hMs:=mstep_ok ⟨j,late⟩ h
 have hlen:=mstep_len m ⟨j,late⟩
 have hdid:did p m ⟨j,late⟩=(decide ((mstep m ⟨j,late⟩).2=0)&&commitsI p (stepAt m j) (coreAt (mstep m ⟨j,late⟩).1 j).regs j (coreAt m j).at_):=rfl
 rw [hdid]
 have hK:=hM.core j hjl
 have e1:=hK.at0
 have e2:=hK.at1
 have hcdj:j<m.codes.length:=by omega
 have hat:(coreAt m j).at_.toNat<(m.codes.getD j []).length:=by omega
 have hsg:=qC6 (m.codes.getD j []) (coreAt m j).at_.toNat hat
 have hss:(m.codes.getD j []).getD (coreAt m j).at_.toNat default=stepAt m j:=rfl
 rw [hss] at hsg
 generalize mstep m ⟨j,late⟩=w at *
 obtain ⟨M,code⟩:=w
 simp only at hMs hlen⊢
 obtain ⟨hl1,hl2⟩:=hlen
 have hM2:=(qC0 M).1 hMs
 have hjl2:j<M.cores.length:=by omega
 have hcdj2:j<M.codes.length:=by rw [hl2]; exact hcdj
 have hcg2:=qAv .own M.cores j hjl2
 have hk2:M.cores.getD j default=coreAt M j:=rfl
 rw [hk2] at hcg2
 have hdg2:=qBu .own M.codes j hcdj2
 rw [hl2] at hdg2
 have hr8:=(hM2.core j hjl2).regs
 by_cases hcd:code=0
 case neg =>
  have hd:decide (code=0)=false:=by simpa using hcd
  rw [hd,Bool.false_and]
  try simp only [go_sem,seval,hcd]
  repeat refine K ?_
  apply qAc (by simp)
  ·exact Sub.refl _
  ·simp [-List.drop_one,-gD,machineC]<;>(first | rfl | exact ⟨rfl,rfl⟩ | exact ⟨rfl,rfl,rfl⟩ | skip)
 have hd:decide (code=0)=true:=by simpa using hcd
 rw [hd,Bool.true_and]
 subst hcd
 have hdself:(codes .own m.codes).set j [.sl .own 5 (steps (m.codes.getD j []))]=codes .own m.codes:=by rw [←hdg2,qAf _ _ _ (by rw [qBr]; exact hcdj)]
 have hcself:(cores .own M.cores).set j [.int .i64 (coreAt M j).at_,.sl .own 1 (ints (coreAt M j).regs),.sl .own 1 (ints (coreAt M j).view),.int .i64 (coreAt M j).st]=cores .own M.cores:=by rw [←hcg2,qAf _ _ _ (by rw [qAx]; exact hjl2)]
 try simp only [go_sem,seval,hcg2,hdg2,hsg,hl2]
 repeat refine K ?_
 refine DA [] (implCommitsOf_ok p (stepAt m j) (coreAt M j).regs j (coreAt m j).at_ hp (by omega) (by omega)) ?_
 try simp only [go_sem,seval]
 repeat refine K ?_
 try simp only [go_sem,seval,hcg2,hdg2,hsg,hl2]
 repeat refine K ?_
 apply qAc (by simp)
 ·repeat' ((first | refine FB 13 0 ?_ | refine FB 15 1 ?_ | refine F2 0 0 ?_ | refine F2 0 1 ?_ | fail); simp only [fS,fS2,fS2,qA,qC,hdself,hcself])
  exact Sub.refl _
 ·simp [-List.drop_one,-gD,machineC,hl2]<;>(first | rfl | exact ⟨rfl,rfl⟩ | exact ⟨rfl,rfl,rfl⟩ | skip)
def m348:MFn:=⟨11,[.cell 2 2 true],kr [xb 1 0,xo 2 (.alloc [xz,xz])] (kr [xo 3 (.alloc [xz,xz])] (kr [xa 4 0 1,xl 5 4,xa 6 0 3,xS 1 6 5] (kr [xa 7 1 1,xl 8 7,xa 9 1 3,xS 1 9 8] (kR [xm 10 2 3,xS 2 2 10]))))⟩
def m384:MFn:=⟨12,[.t 4],kr [xI 4 0] (kr [xv 5 1,xv 6 0,xe 7 6,bT 8 .sub 5 7,xv 1 8] (.seq (kr [xv 9 1,bI 10 .lss 9 0] (kF 10 [xo 4 (.mv (.c (.int .i64 (-1))))])) (kR [xv 11 1,xv 4 11])))⟩
def m385:MFn:=⟨23,[.t 2],kr [xo 2 (.mv (.c (.nil)))] (kr [xv 5 0,xe 6 5,xo 7 (.mkS [xz,xz] 16 (.t 6) (.t 6)),xv 3 7] (.seq (kr [xI 4 0] (.blk 0 (.loop (.seq (kr [xv 8 4,xv 9 0,xe 10 9,bT 11 .lss 8 10] (kX 11 0)) (.seq (.blk 1 (xr [xv 14 3,xv 15 4,xv 16 0,xv 17 4,xD 18 2 16 17,xm 19 2 18,xc1 20 348 (.t 19),xD 21 2 14 15,xS 2 21 20])) (xr [xv 12 4,bI 13 .add 12 1,xv 4 13])))))) (kR [xv 22 3,xv 2 22])))⟩
def m388:MFn:=⟨27,[.t 4],kr [xF 4] (.seq (kr [xv 6 0,xe 7 6,xv 8 1,xe 9 8,bT 10 .neq 7 9] (kF 10 [xF 4])) (.seq (kr [xI 5 0] (.blk 0 (.loop (.seq (kr [xv 11 5,xv 12 0,xe 13 12,bT 14 .lss 11 13] (kX 14 0)) (.seq (.blk 1 (.seq (.dreg (.take 0 (xv 17 0) (.take 1 (xv 18 5) (.take 2 (xD 19 2 17 18) (.take 3 (xm 20 2 19) (.take 4 (xv 21 1) (.only 5 [] (xv 22 5) (.only 6 [4] (xD 23 2 21 22) (.only 7 [6,4] (xm 24 2 23) (.only 8 [3,7,2,6,0,1,4] (xc2 25 414 (.t 20) (.t 24)) (.only 9 [8,3,7,2,6,0,1,4] (xN 26 25) (.done)))))))))))) (kF 26 [xF 4]))) (xr [xv 15 5,bI 16 .add 15 1,xv 5 16])))))) (kR [xT 4])))⟩
def m414:MFn:=⟨15,[.t 4],kr [xb 2 0,xb 3 1,xF 4] (.seq (kr [xa 5 0 2,xl 6 5,xa 7 0 3,xl 8 7,bT 9 .neq 6 8] (kF 9 [xF 4])) (.seq (kr [xa 10 1 2,xl 11 10,xa 12 1 3,xl 13 12,bT 14 .neq 11 13] (kF 14 [xF 4])) (kR [xT 4])))⟩
theorem toPick_ok (x:Pick):CallOk Tryz.prog num 348 [.agg (pickC x)] [] (.agg (pickC x)):=by
 refine EN m348 Tryz.func61 ?_
 unfold m348
 simp only [go_sem,seval]
 repeat refine K ?_
 refine ⟨_,Sub.refl _,qAm ?_⟩; simp [-List.drop_one]
theorem toPickS_ok (l:List Pick) (hl:64*l.length≤2^47):CallOk Tryz.prog num 385 [.sl .bw 2 (pcks l)] [] (.sl .own 2 (pcks l)):=by
 refine EN m385 Tryz.func16 ?_
 unfold m385
 simp only [go_sem,seval]
 repeat refine K ?_
 refine qA8 (ι:=Nat) (fun i=>.mk [(0,.sl .bw 2 (pcks l)),(3,.ns 10 0 l.length),(4,.int .i64 i)] [(10,2,pcks (l.take i++List.replicate (l.length-i) ⟨0,0⟩))] 11) (fun i=>i≤l.length) (fun i=>l.length-i) 0 (by simp) ?_ ?_
 ·refine Sub.shape [] id (by omega) ?_ ?_ ?_ ?_<;>simp [qA2]
  left
  exact pcks_rep _ _ _
 ·intro i hi
  simp only [go_sem,seval]
  refine qA1 (fun hc=>?_) (fun hc=>?_)
  ·simp only [decide_eq_true_eq] at hc
   have hl':i<l.length:=by omega
   have hm:=qCc l (⟨0,0⟩:Pick) i hi
   simp only [go_sem,seval,pcks_getD l i hl',hm]
   repeat refine K ?_
   refine CA [] (toPick_ok (l.getD i default)) ?_
   try simp only [go_sem,seval]
   repeat refine K ?_
   have hs:=fill_set l default (⟨0,0⟩:Pick) i hl'
   have hs':(l.take i++List.replicate (l.length-i) (⟨0,0⟩:Pick)).set i ⟨(l.getD i default).who,(l.getD i default).late⟩=l.take (i+1)++List.replicate (l.length-(i+1)) ⟨0,0⟩:=hs
   try simp only [go_sem,seval,pcks_getD _ i (hm▸hl'),hm,hs',qA7 (i:=i) (by omega)]
   repeat refine K ?_
   refine qA6 (i+1) (Sub.shape [] id (by omega) ?_ ?_ ?_ ?_) ?_ ?_
   any_goals (first | omega | (simp [qA2]; done))
  ·simp only [decide_eq_false_iff_not] at hc
   have:i=l.length:=by omega
   subst this
   simp only [go_sem,seval]
   repeat refine K ?_
   refine fz ?_; simp [FinS,nilL,nilV,oneOr,-List.drop_one]
theorem szPickS_ok (xs:List Pick) (n:Int) (hx:xs.length<2^63) (h0:0≤n) (h1:n≤2^62):CallOk Tryz.prog num 384 [.sl .bw 2 (pcks xs),.int .i64 n] [] (.int .i64 (szL xs.length n)):=by
 refine EN m384 Tryz.func13 ?_
 unfold m384
 have hw:IntKind.i64.wrap (n-xs.length)=n-xs.length:=qAg (by omega) (by omega)
 simp only [go_sem,seval,hw]
 repeat refine K ?_
 refine qA1 (fun hc=>?_) (fun hc=>?_)
 ·simp only [go_sem,seval]
  repeat refine K ?_
  refine fz ?_; simp [FinS,nilL,nilV,oneOr,-List.drop_one]
  simp only [decide_eq_true_eq] at hc
  simp [szL,hc]
 ·simp only [go_sem,seval]
  repeat refine K ?_
  refine fz ?_; simp [FinS,nilL,nilV,oneOr,-List.drop_one]
  simp only [decide_eq_false_iff_not] at hc
  simp [szL,hc]
theorem eqPick_ok (x y:Pick):CallOk Tryz.prog num 414 [.agg (pickC x),.agg (pickC y)] [] (.bool (decide (x=y))):=by
 refine EN m414 Tryz.func69 ?_
 unfold m414
 cases x
 cases y
 repeat' (first
  | (simp only [go_sem,seval])
  | (refine qA1 (fun hc=>?_) (fun hc=>?_)<;>((try simp only [Bool.not_eq_true',Bool.not_eq_false',ne_eq,Bool.not_eq_true,Bool.not_eq_false] at hc)<;>(try simp only [hc])))
  | (refine qB4 (fun hc=>?_) (fun hc=>?_)<;>((try simp only [Bool.not_eq_true',Bool.not_eq_false',ne_eq,Bool.not_eq_true,Bool.not_eq_false] at hc)<;>(try simp only [hc])))
  | (refine qAy (fun hc=>?_) (fun hc=>?_)<;>((try simp only [Bool.not_eq_true',Bool.not_eq_false',ne_eq,Bool.not_eq_true,Bool.not_eq_false] at hc)<;>(try simp only [hc])))
  | (refine ⟨by first | omega | (simp; done),?_⟩)
  | fail)
 all_goals (refine fz ?_; simp [FinS,nilL,nilV,oneOr,-List.drop_one])
 all_goals (try (simp_all; done))
theorem eqPickS_ok (xs ys:List Pick) (hx:xs.length≤2^47)  : CallOk Tryz.prog num 388 [.sl .bw 2 (pcks xs),.sl .bw 2 (pcks ys)] [] (.bool (decide (xs=ys))):=by
 refine EN m388 Tryz.func20 ?_
 unfold m388
 simp only [go_sem,seval]
 repeat refine K ?_
 refine qA1 (fun hc=>?_) (fun hc=>?_)
 ·have hne:xs≠ys:=fun he=>by subst he; simp at hc
  simp only [go_sem,seval]
  repeat refine K ?_
  refine fz ?_; simp [FinS,nilL,nilV,oneOr,-List.drop_one]
  exact hne
 ·have hl:xs.length=ys.length:=by simp at hc; omega
  simp only [go_sem,seval]
  repeat refine K ?_
  refine qA8 (ι:=Nat) (fun i=>.mk [(0,.sl .bw 2 (pcks xs)),(1,.sl .bw 2 (pcks ys)),(5,.int .i64 i)] [] 10) (fun i=>i≤xs.length∧xs.take i=ys.take i) (fun i=>xs.length-i) 0 (by simp) ?_ ?_
  ·refine Sub.shape [] id (by omega) ?_ ?_ ?_ ?_<;>simp [qA2]
  ·rintro i ⟨hi,hp⟩
   simp only [go_sem,seval]
   repeat refine K ?_
   refine qA1 (fun hc=>?_) (fun hc=>?_)
   ·simp only [decide_eq_true_eq] at hc
    have hil:i<xs.length:=by omega
    have hjl:i<ys.length:=by omega
    simp only [go_sem,seval,pcks_getD xs i hil,pcks_getD ys i hjl]
    repeat refine K ?_
    refine DA [] (eqPick_ok (xs.getD i default) (ys.getD i default)) ?_
    try simp only [go_sem,seval]
    repeat refine K ?_
    by_cases he:xs.getD i default=ys.getD i default
    ·simp only [go_sem,seval,he,qA7 (i:=i) (by omega)]
     repeat refine K ?_
     refine qA6 (i+1) (Sub.shape [] id (by omega) ?_ ?_ ?_ ?_) ?_ ?_
     any_goals (first | omega | (simp [qA2]; done))
     refine ⟨hil,?_⟩
     rw [List.take_succ_eq_append_getElem hil,List.take_succ_eq_append_getElem hjl,hp]
     have he':xs[i]=ys[i]:=by simpa [List.getD_eq_getElem?_getD,hil,hjl] using he
     rw [he']
    ·simp only [go_sem,seval,he]
     repeat refine K ?_
     refine fz ?_; simp [FinS,nilL,nilV,oneOr,-List.drop_one]
     intro h
     subst h
     exact he rfl
   ·simp only [decide_eq_false_iff_not] at hc
    have he:xs=ys:=by
     have h1:i=xs.length:=by omega
     rw [h1,List.take_length,hl,List.take_length] at hp
     exact hp
    simp only [go_sem,seval]
    repeat refine K ?_
    refine fz ?_; simp [FinS,nilL,nilV,oneOr,-List.drop_one]
    exact he
end Go.Sep
