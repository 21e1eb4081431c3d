/- Contracts of functions. -/
import Derived.Test.YtebbppogicgpkaaGreatJxx25
open Bool renaming and_eq_true → qWu
open List renaming drop_one → qYj, set_set → qYy
namespace Go.Sep
set_option maxHeartbeats 16000000
open Go.Proofs
set_option linter.unusedSimpArgs false
set_option linter.unusedVariables false
set_option maxRecDepth 100000
open Nat renaming reduceAdd → qA, reduceMul → qB, reduceEqDiff → qC, reduceBEq → qD
open Int renaming reduceToNat → qE, reduceEq → qF, reduceLT → qG, reduceLE → qH
open List renaming getD_eq_getElem?_getD → gD
def m357:MFn:=⟨201,[.cell 4 4 true,.t 5],kr [xb 2 0,xb 3 1,xo 4 (.alloc [.nil,.nil,.nil,.nil]),xI 5 0] (kr [xa 12 1 2,xl 13 12,xa 14 0 3,xl 15 14,xD 16 4 13 15,xm 17 4 16,xo 6 (.alloc [.int .i64 0,.nil,.nil,.int .i64 0]),xS 4 6 17] (.seq (.dreg (.take 0 (xa 18 0 2) (.take 1 (xl 19 18) (.take 2 (xa 20 0 3) (.take 3 (xl 21 20) (.take 4 (xD 22 1 19 21) (.take 5 (xl 23 22) (.take 6 (xa 24 0 6) (.take 7 (xl 25 24) (.take 8 (xD 26 5 23 25) (.take 9 (xm 27 5 26) (.only 10 [] (xo 7 (.alloc [xz,xz,xz,xz,xz])) (.only 11 [0,1,2,3,4,5,6,7,8,9] (xS 5 7 27) (.done)))))))))))))) (kr [xa 28 0 6,xl 29 28,bI 30 .add 29 1,xv 8 30] (.seq (kr [xa 31 0 7,xl 32 31] (.blk 0 (kr [bI 54 .eql 32 1,xv 53 54] (.cond 53 (xr [xa 55 1 6,xl 56 55,xa 57 1 7,xl 58 57,xa 59 4 7,xl 60 59,xD 61 1 56 58,xS 1 61 60]) (kr [bI 63 .eql 32 2,xv 62 63] (.cond 62 (.dreg (.take 0 (xa 64 1 6) (.take 1 (xl 65 64) (.take 2 (xa 66 1 7) (.take 3 (xl 67 66) (.take 4 (xa 68 1 6) (.take 5 (xl 69 68) (.take 6 (xa 70 2 7) (.take 7 (xl 71 70) (.take 8 (xD 72 1 69 71) (.take 9 (xl 73 72) (.take 10 (xa 74 1 6) (.take 11 (xl 75 74) (.only 12 [] (xa 76 3 7) (.only 13 [] (xl 77 76) (.only 14 [11,10] (xD 78 1 75 77) (.only 15 [14,11,10] (xl 79 78) (.only 16 [9,15,8,14,5,7,11,4,6,10] (bT 80 .add 73 79) (.only 17 [0,1,2,3,4,5,6,7,8,9,10,11] (xD 81 1 65 67) (.only 18 [0,1,2,3,4,5,6,7,8,9,10,11] (xS 1 81 80) (.done))))))))))))))))))))) (kr [bI 83 .eql 32 3,xv 82 83] (.cond 82 (.dreg (.take 0 (xa 84 1 6) (.take 1 (xl 85 84) (.take 2 (xa 86 1 7) (.take 3 (xl 87 86) (.take 4 (xa 88 1 6) (.take 5 (xl 89 88) (.take 6 (xa 90 2 7) (.take 7 (xl 91 90) (.take 8 (xD 92 1 89 91) (.take 9 (xl 93 92) (.take 10 (xa 94 1 6) (.take 11 (xl 95 94) (.only 12 [] (xa 96 3 7) (.only 13 [] (xl 97 96) (.only 14 [11,10] (xD 98 1 95 97) (.only 15 [14,11,10] (xl 99 98) (.only 16 [9,15,8,14,5,7,11,4,6,10] (bT 100 .sub 93 99) (.only 17 [0,1,2,3,4,5,6,7,8,9,10,11] (xD 101 1 85 87) (.only 18 [0,1,2,3,4,5,6,7,8,9,10,11] (xS 1 101 100) (.done))))))))))))))))))))) (kr [bI 103 .eql 32 4,xv 102 103] (.cond 102 (.dreg (.take 0 (xa 104 1 6) (.take 1 (xl 105 104) (.take 2 (xa 106 1 7) (.take 3 (xl 107 106) (.take 4 (xa 108 1 6) (.take 5 (xl 109 108) (.take 6 (xa 110 2 7) (.take 7 (xl 111 110) (.take 8 (xD 112 1 109 111) (.take 9 (xl 113 112) (.take 10 (xa 114 1 6) (.take 11 (xl 115 114) (.only 12 [] (xa 116 3 7) (.only 13 [] (xl 117 116) (.only 14 [11,10] (xD 118 1 115 117) (.only 15 [14,11,10] (xl 119 118) (.only 16 [9,15,8,14,5,7,11,4,6,10] (bT 120 .lss 113 119) (.only 17 [16,9,15,8,14,5,7,11,4,6,10] (xc1 121 85 (.t 120)) (.only 18 [0,1,2,3,4,5,6,7,8,9,10,11] (xD 122 1 105 107) (.only 19 [0,1,2,3,4,5,6,7,8,9,10,11] (xS 1 122 121) (.done)))))))))))))))))))))) (kr [bI 124 .eql 32 9,xv 123 124] (.cond 123 (.seq (kr [xa 125 3 2,xl 126 125,xe 127 126,bI 128 .eql 127 4000] (kF 128 [xm 129 4 2,xS 4 4 129,xI 5 3])) (.dreg (.take 0 (xa 130 3 2) (.take 1 (xl 131 130) (.take 2 (xa 132 0 3) (.take 3 (xl 133 132) (.take 4 (xa 134 1 6) (.take 5 (xl 135 134) (.only 6 [] (xa 136 2 7) (.only 7 [] (xl 137 136) (.only 8 [5,4] (xD 138 1 135 137) (.only 9 [8,5,4] (xl 139 138) (.only 10 [3,9,2,8,5,4] (xo 140 (.build [xz,xz] [(0,1,.t 133),(1,1,.t 139)])) (.only 11 [10,3,9,2,8,5,4] (xo 141 (.mkSl [xz,xz] 1 [(0,.t 140)])) (.only 12 [1,11,0,10,3,9,2,8,5,4] (xA 142 2 16 131 141) (.only 13 [0,1,2,3,4,5] (xa 143 3 2) (.only 14 [0,1,2,3,4,5] (xS 1 143 142) (.done)))))))))))))))))) (kr [bI 145 .eql 32 10,xv 144 145] (.cond 144 (xr [xa 146 4 7,xl 147 146,xv 8 147]) (kr [bI 149 .eql 32 11,xv 148 149] (.cond 148 (kr [xa 150 1 6,xl 151 150,xa 152 2 7,xl 153 152,xD 154 1 151 153,xl 155 154,bI 156 .eql 155 0] (.cond 156 (xr [xa 157 4 7,xl 158 157,xv 8 158]) (.skip))) (kr [bI 160 .eql 32 12,xv 159 160] (.cond 159 (kr [xa 161 1 2,xl 162 161,xa 163 0 3,xl 164 163,xD 165 4 162 164,xa 166 3 165,⟨none,.store 1 (.t 166) (xi 1),none⟩] (kR [xm 167 4 2,xS 4 4 167,xI 5 0])) (kr [bI 169 .eql 32 13,xv 168 169] (.cond 168 (kr [xa 170 1 2,xl 171 170,xa 172 0 3,xl 173 172,xD 174 4 171 173,xa 175 3 174,⟨none,.store 1 (.t 175) (xi 2),none⟩] (kR [xm 176 4 2,xS 4 4 176,xI 5 0])) (kr [xm 34 4 2,xm 35 2 3,xm 36 5 7,xo 37 (.call 365 [true,false,false] [.t 34,.t 35,.t 36]),xv 33 37,xX 38 33 0,xX 39 33 1,xX 40 33 2,xo 9 (.alloc [.nil,.nil,.nil,.nil]),xS 4 9 38,xv 10 39,xv 11 40] (.seq (kr [xv 41 11] (kF 41 [xm 42 4 2,xS 4 4 42,xI 5 3])) (kr [xm 43 4 9,xS 4 2 43] (kr [xv 44 10,xN 45 44] (.cond 45 (kr [xa 46 1 2,xl 47 46,xa 48 0 3,xl 49 48,xD 50 4 47 49,xa 51 3 50,⟨none,.store 1 (.t 51) (xi 2),none⟩] (kR [xm 52 4 2,xS 4 4 52,xI 5 0])) (.skip)))))))))))))))))))))))))) (.seq (kr [xv 177 8,xa 178 0 2,xl 179 178,xa 180 0 3,xl 181 180,xD 182 1 179 181,xl 183 182,xe 184 183,bT 185 .geq 177 184] (.cond 185 (kr [xa 186 1 2,xl 187 186,xa 188 0 3,xl 189 188,xD 190 4 187 189,xa 191 3 190,⟨none,.store 1 (.t 191) (xi 2),none⟩] (kR [xm 192 4 2,xS 4 4 192,xI 5 0])) (.skip))) (kr [xa 193 1 2,xl 194 193,xa 195 0 3,xl 196 195,xv 197 8,xD 198 4 194 196,xa 199 0 198,xS 1 199 197] (kR [xm 200 4 2,xS 4 4 200,xI 5 0])))))))⟩
theorem c357:mK Tryz.prog num Tryz.f70.ntmps m357.body ((Tryz.f70.body).getD .skip)=true:=by kernel_rfl
attribute [go_sem] qF2 mJ qIl
theorem qGq {m:wA} {i:Nat} {s:yH} (hM:MOk m) (hi:i<m.cores.length) (hs:jH s.op=true):pN m i s=(jH s.op&&!decide (s.op=5)&&qO (wK (qJ m i) s) 0 23&&decide ((4000:Int)≤(m.mem.cells.getD (wK (qJ m i) s).toNat []).length)):=by
 unfold pN
 rw [hs,Bool.true_and]
 cases hw:qO (wK (qJ m i) s) 0 23
 ·simp
 ·rw [qP] at hw
  have:=(hM.mem.cell (wK (qJ m i) s).toNat (by omega)).2
  congr 1
  rw [decide_eq_decide]
  omega
theorem qRr (m:wA) (i:Nat) (late:Int) (hM:MOk m) (hi:i<m.cores.length) (hst:(qJ m i).st=0) (hc:(yF m ⟨i,late⟩).2=0) (hl:-(2^63)≤late∧late<2^63) :
  qU Tryz.prog num 357 [mJ m,.agg (fG ⟨i,late⟩)] (qF2 m) (.tup [.agg (qY .own (yF m ⟨i,late⟩).1),.int .i64 0]):=by
 refine EH m357 Tryz.func70 (hh:=qL3 m) ?_
 unfold m357
 have n4:=hM.n4
 have hcl:=hM.cores
 have hj:i<m.codes.length:=by omega
 have hK:=hM.core i hi
 have e1:=hK.at0
 have e2:=hK.at1
 have e4:=hK.regs
 have e6:=hK.view
 have hso:=aY hM hi
 have hcg:=jZ .own m.cores i hi
 have gt :∀r,((cores .own m.cores).set i r).getD i []=r:=fun r=>wF _ _ _ _ (by rw [jT]; exact hi)
 have gt2 :∀k r,((cores .own (m.cores.set i k)).set i r).getD i []=r:=fun k r=>wF _ _ _ _ (by rw [jT,List.length_set]; exact hi)
 have hdg:=aO .own m.codes i hj
 have gd :∀r,((codes .own m.codes).set i r).getD i []=r:=fun r=>wF _ _ _ _ (by rw [gG]; exact hj)
 have hdself:(codes .own m.codes).set i [.sl .own 5 (jB (m.codes.getD i []))]=codes .own m.codes:=by rw [←hdg,wP _ _ _ (by rw [gG]; exact hj)]
 have hcself:(cores .own m.cores).set i [.int .i64 (qJ m i).at_,.sl .own 1 (wQ (qJ m i).regs),.sl .own 1 (wQ (qJ m i).view),.int .i64 (qJ m i).st]=cores .own m.cores:=by rw [show qJ m i=m.cores.getD i default from rfl,←hcg,wP _ _ _ (by rw [jT]; exact hi)]
 have hsg:=aK (m.codes.getD i []) (qJ m i).at_.toNat (by omega)
 have hl800:(m.codes.getD i []).length≤800:=by
  have:=hK.code
  unfold bZ at this
  simp only [qWu,qP] at this
  omega
 generalize hkk:qJ m i=k at *
 have hkk':m.cores.getD i default=k:=hkk
 rw [hkk'] at hcg
 have hss:(m.codes.getD i []).getD k.at_.toNat default=wD m i:=by rw [←hkk]; rfl
 rw [hss] at hsg
 generalize hstp:wD m i=s at *
 generalize hcd:m.codes.getD i []=cd at *
 have hw1:IntKind.i64.wrap (k.at_+1)=k.at_+1:=wM (by omega) (by omega)
 obtain ⟨r0,r1,b0,b1,op1,op13,a7⟩:=dB hso
 have rr:s.r.toNat<k.regs.length:=by omega
 have rb:s.b.toNat<k.regs.length:=by omega
 simp only [go_sem,seval,mJ,qF2,hcg,gt,gt2,hdg,gd,hsg,hw1,qI k.regs s.r.toNat rr,qI k.regs s.b.toNat rb]
 repeat refine K ?_
 by_cases h9:s.op=9
 ·have htr :¬(m.tr.length:Int)=4000:=fun e=>by
   rw [eN (late:=late) hkk hstp hi (.inl (.inr ⟨h9,e⟩))] at hc
   simp at hc
  have ra:s.a.toNat<k.regs.length:=by omega
  have hst0:=vE (late:=late) hkk hstp hi hst (fun e=>htr e.2) (by simp [jH,h9])
  have hgo:mdo m i late=fA ⟨m.codes,m.cores,m.mem,m.tr++[⟨i,k.regs.getD s.a.toNat 0⟩]⟩ i k (k.at_+1):=by
   unfold mdo
   simp [hkk,hstp,h9,jH,rg]
  have htl:m.tr.length≤4000:=by
   have:=hM.tr
   unfold bG at this
   simp only [qWu,decide_eq_true_eq] at this
   omega
  simp only [go_sem,seval,h9,htr,hcg,gt,gt2,hdg,gd,hsg,hw1,qI k.regs s.r.toNat rr,qI k.regs s.b.toNat rb,qI k.regs s.a.toNat ra]
  repeat refine K ?_
  by_cases hn:(cd.length:Int)≤k.at_+1
  ·rw [hst0,hgo,bP (by rw [hcd]; exact hn)]
   simp only [go_sem,seval,hn,hcg,gt,gt2,hdg,gd,hsg,hw1,qI k.regs s.r.toNat rr,qI k.regs s.b.toNat rb,qI k.regs s.a.toNat ra]
   repeat refine K ?_
   apply wG (by simp)
   ·repeat' ((first | refine FB 1 1 ?_ | refine FB 1 2 ?_ | refine FB 0 0 ?_ | fail); simp only [fS,fS2,fS2,qA,qC,qK,qYy,hdself])
    exact Sub.refl _
   ·simp [-qYj,-gD,wC,jI,qY,qK,hdself,hst,yP,wR]<;>(first | rfl | exact ⟨rfl,rfl⟩ | exact ⟨rfl,rfl,rfl⟩ | skip)
  ·rw [hst0,hgo,uG (by rw [hcd]; exact hn)]
   simp only [go_sem,seval,hn,hcg,gt,gt2,hdg,gd,hsg,hw1,qI k.regs s.r.toNat rr,qI k.regs s.b.toNat rb,qI k.regs s.a.toNat ra]
   repeat refine K ?_
   apply wG (by simp)
   ·repeat' ((first | refine FB 1 1 ?_ | refine FB 1 2 ?_ | refine FB 0 0 ?_ | fail); simp only [fS,fS2,fS2,qA,qC,qK,qYy,hdself])
    exact Sub.refl _
   ·simp [-qYj,-gD,wC,jI,qY,qK,hdself,hst,yP,wR]<;>(first | rfl | exact ⟨rfl,rfl⟩ | exact ⟨rfl,rfl,rfl⟩ | skip)
 have h9' :∀P:Prop,¬(s.op=9∧P):=fun P e=>h9 e.1
 by_cases h1:s.op=1
 ·have ra:s.a.toNat<k.regs.length:=by omega
  have hst0:=vE (late:=late) hkk hstp hi hst (h9' _) (by simp [jH,h1])
  have hgo:mdo m i late=fA m i ⟨k.at_,k.regs.set s.r.toNat s.n,k.view,k.st⟩ (k.at_+1):=by
   unfold mdo
   simp [hkk,hstp,h1,jH,alu,uO,nN,rg]
  simp only [go_sem,seval,h1,hcg,gt,gt2,hdg,gd,hsg,hw1,qI k.regs s.r.toNat rr,qI k.regs s.b.toNat rb,qI k.regs s.a.toNat ra]
  repeat refine K ?_
  by_cases hn:(cd.length:Int)≤k.at_+1
  ·rw [hst0,hgo,bP (by rw [hcd]; exact hn)]
   simp only [go_sem,seval,hn,hcg,gt,gt2,hdg,gd,hsg,hw1,qI k.regs s.r.toNat rr,qI k.regs s.b.toNat rb,qI k.regs s.a.toNat ra]
   repeat refine K ?_
   apply wG (by simp)
   ·repeat' ((first | refine FB 1 1 ?_ | refine FB 1 2 ?_ | refine FB 0 0 ?_ | fail); simp only [fS,fS2,fS2,qA,qC,qK,qYy,hdself])
    exact Sub.refl _
   ·simp [-qYj,-gD,wC,jI,qY,qK,hdself,hst,yP,wR]<;>(first | rfl | exact ⟨rfl,rfl⟩ | exact ⟨rfl,rfl,rfl⟩ | skip)
  ·rw [hst0,hgo,uG (by rw [hcd]; exact hn)]
   simp only [go_sem,seval,hn,hcg,gt,gt2,hdg,gd,hsg,hw1,qI k.regs s.r.toNat rr,qI k.regs s.b.toNat rb,qI k.regs s.a.toNat ra]
   repeat refine K ?_
   apply wG (by simp)
   ·repeat' ((first | refine FB 1 1 ?_ | refine FB 1 2 ?_ | refine FB 0 0 ?_ | fail); simp only [fS,fS2,fS2,qA,qC,qK,qYy,hdself])
    exact Sub.refl _
   ·simp [-qYj,-gD,wC,jI,qY,qK,hdself,hst,yP,wR]<;>(first | rfl | exact ⟨rfl,rfl⟩ | exact ⟨rfl,rfl,rfl⟩ | skip)
 by_cases h2:s.op=2
 ·have ra:s.a.toNat<k.regs.length:=by omega
  have hst0:=vE (late:=late) hkk hstp hi hst (h9' _) (by simp [jH,h2])
  have hgo:mdo m i late=fA m i ⟨k.at_,k.regs.set s.r.toNat (IntKind.i64.wrap (k.regs.getD s.a.toNat 0+k.regs.getD s.b.toNat 0)),k.view,k.st⟩ (k.at_+1):=by
   unfold mdo
   simp [hkk,hstp,h2,jH,alu,uO,nN,rg]
  simp only [go_sem,seval,h2,hcg,gt,gt2,hdg,gd,hsg,hw1,qI k.regs s.r.toNat rr,qI k.regs s.b.toNat rb,qI k.regs s.a.toNat ra]
  repeat refine K ?_
  by_cases hn:(cd.length:Int)≤k.at_+1
  ·rw [hst0,hgo,bP (by rw [hcd]; exact hn)]
   simp only [go_sem,seval,hn,hcg,gt,gt2,hdg,gd,hsg,hw1,qI k.regs s.r.toNat rr,qI k.regs s.b.toNat rb,qI k.regs s.a.toNat ra]
   repeat refine K ?_
   apply wG (by simp)
   ·repeat' ((first | refine FB 1 1 ?_ | refine FB 1 2 ?_ | refine FB 0 0 ?_ | fail); simp only [fS,fS2,fS2,qA,qC,qK,qYy,hdself])
    exact Sub.refl _
   ·simp [-qYj,-gD,wC,jI,qY,qK,hdself,hst,yP,wR]<;>(first | rfl | exact ⟨rfl,rfl⟩ | exact ⟨rfl,rfl,rfl⟩ | skip)
  ·rw [hst0,hgo,uG (by rw [hcd]; exact hn)]
   simp only [go_sem,seval,hn,hcg,gt,gt2,hdg,gd,hsg,hw1,qI k.regs s.r.toNat rr,qI k.regs s.b.toNat rb,qI k.regs s.a.toNat ra]
   repeat refine K ?_
   apply wG (by simp)
   ·repeat' ((first | refine FB 1 1 ?_ | refine FB 1 2 ?_ | refine FB 0 0 ?_ | fail); simp only [fS,fS2,fS2,qA,qC,qK,qYy,hdself])
    exact Sub.refl _
   ·simp [-qYj,-gD,wC,jI,qY,qK,hdself,hst,yP,wR]<;>(first | rfl | exact ⟨rfl,rfl⟩ | exact ⟨rfl,rfl,rfl⟩ | skip)
 by_cases h3:s.op=3
 ·have ra:s.a.toNat<k.regs.length:=by omega
  have hst0:=vE (late:=late) hkk hstp hi hst (h9' _) (by simp [jH,h3])
  have hgo:mdo m i late=fA m i ⟨k.at_,k.regs.set s.r.toNat (IntKind.i64.wrap (k.regs.getD s.a.toNat 0-k.regs.getD s.b.toNat 0)),k.view,k.st⟩ (k.at_+1):=by
   unfold mdo
   simp [hkk,hstp,h3,jH,alu,uO,nN,rg]
  simp only [go_sem,seval,h3,hcg,gt,gt2,hdg,gd,hsg,hw1,qI k.regs s.r.toNat rr,qI k.regs s.b.toNat rb,qI k.regs s.a.toNat ra]
  repeat refine K ?_
  by_cases hn:(cd.length:Int)≤k.at_+1
  ·rw [hst0,hgo,bP (by rw [hcd]; exact hn)]
   simp only [go_sem,seval,hn,hcg,gt,gt2,hdg,gd,hsg,hw1,qI k.regs s.r.toNat rr,qI k.regs s.b.toNat rb,qI k.regs s.a.toNat ra]
   repeat refine K ?_
   apply wG (by simp)
   ·repeat' ((first | refine FB 1 1 ?_ | refine FB 1 2 ?_ | refine FB 0 0 ?_ | fail); simp only [fS,fS2,fS2,qA,qC,qK,qYy,hdself])
    exact Sub.refl _
   ·simp [-qYj,-gD,wC,jI,qY,qK,hdself,hst,yP,wR]<;>(first | rfl | exact ⟨rfl,rfl⟩ | exact ⟨rfl,rfl,rfl⟩ | skip)
  ·rw [hst0,hgo,uG (by rw [hcd]; exact hn)]
   simp only [go_sem,seval,hn,hcg,gt,gt2,hdg,gd,hsg,hw1,qI k.regs s.r.toNat rr,qI k.regs s.b.toNat rb,qI k.regs s.a.toNat ra]
   repeat refine K ?_
   apply wG (by simp)
   ·repeat' ((first | refine FB 1 1 ?_ | refine FB 1 2 ?_ | refine FB 0 0 ?_ | fail); simp only [fS,fS2,fS2,qA,qC,qK,qYy,hdself])
    exact Sub.refl _
   ·simp [-qYj,-gD,wC,jI,qY,qK,hdself,hst,yP,wR]<;>(first | rfl | exact ⟨rfl,rfl⟩ | exact ⟨rfl,rfl,rfl⟩ | skip)
 by_cases h4:s.op=4
 ·have ra:s.a.toNat<k.regs.length:=by omega
  have hst0:=vE (late:=late) hkk hstp hi hst (h9' _) (by simp [jH,h4])
  have hgo:mdo m i late=fA m i ⟨k.at_,k.regs.set s.r.toNat (uK (decide (k.regs.getD s.a.toNat 0<k.regs.getD s.b.toNat 0))),k.view,k.st⟩ (k.at_+1):=by
   unfold mdo
   simp [hkk,hstp,h4,jH,alu,uO,nN,rg]
  simp only [go_sem,seval,h4,hcg,gt,gt2,hdg,gd,hsg,hw1,qI k.regs s.r.toNat rr,qI k.regs s.b.toNat rb,qI k.regs s.a.toNat ra]
  repeat refine K ?_
  refine DA [] (iY (decide (k.regs.getD s.a.toNat 0<k.regs.getD s.b.toNat 0))) ?_
  try simp only [go_sem,seval]
  repeat refine K ?_
  try simp only [go_sem,seval,h4,hcg,gt,gt2,hdg,gd,hsg,hw1,qI k.regs s.r.toNat rr,qI k.regs s.b.toNat rb,qI k.regs s.a.toNat ra]
  repeat refine K ?_
  by_cases hn:(cd.length:Int)≤k.at_+1
  ·rw [hst0,hgo,bP (by rw [hcd]; exact hn)]
   simp only [go_sem,seval,hn,hcg,gt,gt2,hdg,gd,hsg,hw1,qI k.regs s.r.toNat rr,qI k.regs s.b.toNat rb,qI k.regs s.a.toNat ra]
   repeat refine K ?_
   apply wG (by simp)
   ·repeat' ((first | refine FB 1 1 ?_ | refine FB 1 2 ?_ | refine FB 0 0 ?_ | fail); simp only [fS,fS2,fS2,qA,qC,qK,qYy,hdself])
    exact Sub.refl _
   ·simp [-qYj,-gD,wC,jI,qY,qK,hdself,hst,yP,wR]<;>(first | rfl | exact ⟨rfl,rfl⟩ | exact ⟨rfl,rfl,rfl⟩ | skip)
  ·rw [hst0,hgo,uG (by rw [hcd]; exact hn)]
   simp only [go_sem,seval,hn,hcg,gt,gt2,hdg,gd,hsg,hw1,qI k.regs s.r.toNat rr,qI k.regs s.b.toNat rb,qI k.regs s.a.toNat ra]
   repeat refine K ?_
   apply wG (by simp)
   ·repeat' ((first | refine FB 1 1 ?_ | refine FB 1 2 ?_ | refine FB 0 0 ?_ | fail); simp only [fS,fS2,fS2,qA,qC,qK,qYy,hdself])
    exact Sub.refl _
   ·simp [-qYj,-gD,wC,jI,qY,qK,hdself,hst,yP,wR]<;>(first | rfl | exact ⟨rfl,rfl⟩ | exact ⟨rfl,rfl,rfl⟩ | skip)
 by_cases h10:s.op=10
 ·have hst0:=vE (late:=late) hkk hstp hi hst (h9' _) (by simp [jH,h10])
  have hgo:mdo m i late=fA m i k s.n:=by
   unfold mdo
   simp [hkk,hstp,h10,jH,alu,uO]
  simp only [go_sem,seval,h10,h9,hcg,gt,gt2,hdg,gd,hsg,hw1,qI k.regs s.r.toNat rr,qI k.regs s.b.toNat rb]
  repeat refine K ?_
  by_cases hn:(cd.length:Int)≤s.n
  ·rw [hst0,hgo,bP (by rw [hcd]; exact hn)]
   simp only [go_sem,seval,hn,hcg,gt,gt2,hdg,gd,hsg,hw1,qI k.regs s.r.toNat rr,qI k.regs s.b.toNat rb]
   repeat refine K ?_
   apply wG (by simp)
   ·repeat' ((first | refine FB 1 1 ?_ | refine FB 1 2 ?_ | refine FB 0 0 ?_ | fail); simp only [fS,fS2,fS2,qA,qC,qK,qYy,hdself])
    exact Sub.refl _
   ·simp [-qYj,-gD,wC,jI,qY,qK,hdself,hst,yP,wR]<;>(first | rfl | exact ⟨rfl,rfl⟩ | exact ⟨rfl,rfl,rfl⟩ | skip)
  ·rw [hst0,hgo,uG (by rw [hcd]; exact hn)]
   simp only [go_sem,seval,hn,hcg,gt,gt2,hdg,gd,hsg,hw1,qI k.regs s.r.toNat rr,qI k.regs s.b.toNat rb]
   repeat refine K ?_
   apply wG (by simp)
   ·repeat' ((first | refine FB 1 1 ?_ | refine FB 1 2 ?_ | refine FB 0 0 ?_ | fail); simp only [fS,fS2,fS2,qA,qC,qK,qYy,hdself])
    exact Sub.refl _
   ·simp [-qYj,-gD,wC,jI,qY,qK,hdself,hst,yP,wR]<;>(first | rfl | exact ⟨rfl,rfl⟩ | exact ⟨rfl,rfl,rfl⟩ | skip)
 by_cases h11:s.op=11
 ·have ra:s.a.toNat<k.regs.length:=by omega
  have hst0:=vE (late:=late) hkk hstp hi hst (h9' _) (by simp [jH,h11])
  simp only [go_sem,seval,h11,h9,hcg,gt,gt2,hdg,gd,hsg,hw1,qI k.regs s.r.toNat rr,qI k.regs s.b.toNat rb,qI k.regs s.a.toNat ra]
  repeat refine K ?_
  by_cases hz:k.regs.getD s.a.toNat 0=0
  ·have hgo:mdo m i late=fA m i k s.n:=by
    unfold mdo
    rw [hkk,hstp]
    simp only [h11,jH,alu,uO,rg,hz]
    simp
   try simp only [go_sem,seval,h11,hz,hcg,gt,gt2,hdg,gd,hsg,hw1,qI k.regs s.r.toNat rr,qI k.regs s.b.toNat rb,qI k.regs s.a.toNat ra]
   repeat refine K ?_
   by_cases hn:(cd.length:Int)≤s.n
   ·rw [hst0,hgo,bP (by rw [hcd]; exact hn)]
    simp only [go_sem,seval,hn,hcg,gt,gt2,hdg,gd,hsg,hw1,qI k.regs s.r.toNat rr,qI k.regs s.b.toNat rb,qI k.regs s.a.toNat ra]
    repeat refine K ?_
    apply wG (by simp)
    ·repeat' ((first | refine FB 1 1 ?_ | refine FB 1 2 ?_ | refine FB 0 0 ?_ | fail); simp only [fS,fS2,fS2,qA,qC,qK,qYy,hdself])
     exact Sub.refl _
    ·simp [-qYj,-gD,wC,jI,qY,qK,hdself,hst,yP,wR]<;>(first | rfl | exact ⟨rfl,rfl⟩ | exact ⟨rfl,rfl,rfl⟩ | skip)
   ·rw [hst0,hgo,uG (by rw [hcd]; exact hn)]
    simp only [go_sem,seval,hn,hcg,gt,gt2,hdg,gd,hsg,hw1,qI k.regs s.r.toNat rr,qI k.regs s.b.toNat rb,qI k.regs s.a.toNat ra]
    repeat refine K ?_
    apply wG (by simp)
    ·repeat' ((first | refine FB 1 1 ?_ | refine FB 1 2 ?_ | refine FB 0 0 ?_ | fail); simp only [fS,fS2,fS2,qA,qC,qK,qYy,hdself])
     exact Sub.refl _
    ·simp [-qYj,-gD,wC,jI,qY,qK,hdself,hst,yP,wR]<;>(first | rfl | exact ⟨rfl,rfl⟩ | exact ⟨rfl,rfl,rfl⟩ | skip)
  ·have hgo:mdo m i late=fA m i k (k.at_+1):=by
    unfold mdo
    rw [hkk,hstp]
    simp only [h11,jH,alu,uO,rg,hz]
    simp
   try simp only [go_sem,seval,h11,hz,hcg,gt,gt2,hdg,gd,hsg,hw1,qI k.regs s.r.toNat rr,qI k.regs s.b.toNat rb,qI k.regs s.a.toNat ra]
   repeat refine K ?_
   by_cases hn:(cd.length:Int)≤k.at_+1
   ·rw [hst0,hgo,bP (by rw [hcd]; exact hn)]
    simp only [go_sem,seval,hn,hcg,gt,gt2,hdg,gd,hsg,hw1,qI k.regs s.r.toNat rr,qI k.regs s.b.toNat rb,qI k.regs s.a.toNat ra]
    repeat refine K ?_
    apply wG (by simp)
    ·repeat' ((first | refine FB 1 1 ?_ | refine FB 1 2 ?_ | refine FB 0 0 ?_ | fail); simp only [fS,fS2,fS2,qA,qC,qK,qYy,hdself])
     exact Sub.refl _
    ·simp [-qYj,-gD,wC,jI,qY,qK,hdself,hst,yP,wR]<;>(first | rfl | exact ⟨rfl,rfl⟩ | exact ⟨rfl,rfl,rfl⟩ | skip)
   ·rw [hst0,hgo,uG (by rw [hcd]; exact hn)]
    simp only [go_sem,seval,hn,hcg,gt,gt2,hdg,gd,hsg,hw1,qI k.regs s.r.toNat rr,qI k.regs s.b.toNat rb,qI k.regs s.a.toNat ra]
    repeat refine K ?_
    apply wG (by simp)
    ·repeat' ((first | refine FB 1 1 ?_ | refine FB 1 2 ?_ | refine FB 0 0 ?_ | fail); simp only [fS,fS2,fS2,qA,qC,qK,qYy,hdself])
     exact Sub.refl _
    ·simp [-qYj,-gD,wC,jI,qY,qK,hdself,hst,yP,wR]<;>(first | rfl | exact ⟨rfl,rfl⟩ | exact ⟨rfl,rfl,rfl⟩ | skip)
 by_cases h12:s.op=12
 ·have hst0:=vE (late:=late) hkk hstp hi hst (h9' _) (by simp [jH,h12])
  have hgo:mdo m i late=jI m i ⟨k.at_,k.regs,k.view,1⟩:=by
   unfold mdo
   simp [hkk,hstp,h12,stop]
  rw [hst0,hgo]
  simp only [go_sem,seval,h12,h9,hcg,gt,gt2,hdg,gd,hsg,hw1,qI k.regs s.r.toNat rr,qI k.regs s.b.toNat rb]
  repeat refine K ?_
  apply wG (by simp)
  ·repeat' ((first | refine FB 1 1 ?_ | refine FB 1 2 ?_ | refine FB 0 0 ?_ | fail); simp only [fS,fS2,fS2,qA,qC,qK,qYy,hdself])
   exact Sub.refl _
  ·simp [-qYj,-gD,wC,jI,qY,qK,hdself,hst,hgo]<;>(first | rfl | exact ⟨rfl,rfl⟩ | exact ⟨rfl,rfl,rfl⟩ | skip)
 by_cases h13:s.op=13
 ·have hst0:=vE (late:=late) hkk hstp hi hst (h9' _) (by simp [jH,h13])
  have hgo:mdo m i late=jI m i ⟨k.at_,k.regs,k.view,2⟩:=by
   unfold mdo
   simp [hkk,hstp,h13,stop]
  rw [hst0,hgo]
  simp only [go_sem,seval,h13,h9,hcg,gt,gt2,hdg,gd,hsg,hw1,qI k.regs s.r.toNat rr,qI k.regs s.b.toNat rb]
  repeat refine K ?_
  apply wG (by simp)
  ·repeat' ((first | refine FB 1 1 ?_ | refine FB 1 2 ?_ | refine FB 0 0 ?_ | fail); simp only [fS,fS2,fS2,qA,qC,qK,qYy,hdself])
   exact Sub.refl _
  ·simp [-qYj,-gD,wC,jI,qY,qK,hdself,hst,hgo]<;>(first | rfl | exact ⟨rfl,rfl⟩ | exact ⟨rfl,rfl,rfl⟩ | skip)
 have hop:s.op=5∨s.op=6∨s.op=7∨s.op=8:=by omega
 have hmm:jH s.op=true:=by rcases hop with h | h | h | h<;>simp [jH,h]
 have hmf:=qGq hM hi hmm
 rw [hkk] at hmf
 have hnf:pN m i s=false:=by
  rw [hmf]
  cases hq:(jH s.op&&!decide (s.op=5)&&qO (wK k s) 0 23&&decide ((4000:Int)≤(m.mem.cells.getD (wK k s).toNat []).length)) with
  | false=>rfl
  | true =>
   rw [eN (late:=late) hkk hstp hi (.inr hq)] at hc
   simp at hc
 have hst0:=vE (late:=late) hkk hstp hi hst (h9' _) (by rw [←hmf]; exact hnf)
 have hmd:=qN0 m i late s hM.mem hi (by rw [hkk]; exact e4) (by rw [hkk]; exact e6) hl r0 r1 b0 b1 (by omega) hop hnf
 have hself:m.cores.set i ⟨k.at_,k.regs,k.view,k.st⟩=m.cores:=by rw [←hkk']; exact wP _ _ _ hi
 simp only [go_sem,seval,h1,h2,h3,h4,h9,h10,h11,h12,h13,hcg,gt,gt2,hdg,gd,hsg,hw1,qI k.regs s.r.toNat rr,qI k.regs s.b.toNat rb]
 apply uU
 ·refine FA 1 1 13 ?_
  simp only [fS,fS2,fS2,qA,qC,qK,qYy]
  refine FA 1 2 14 ?_
  simp only [fS,fS2,fS2,qA,qC,hcself,qK,qYy]
  refine FA 0 0 16 ?_
  simp only [fS,fS2,fS2,qA,qC,hdself]
  exact Sub.refl _
 refine CA [(0,0),(1,1),(2,2),(3,3)] (hmd) ?_
 try simp only [go_sem,seval]
 cases hin:qO (wK k s) 0 23
 ·have hmo:qGt m i s late=(m,false):=by
   unfold qGt
   rw [hkk,hin]
   rfl
  have hgo:mdo m i late=jI m i ⟨k.at_,k.regs,k.view,2⟩:=by
   unfold mdo
   rw [hkk,hstp]
   simp only [h12,h13,hmm,hin,if_true,if_false,stop,hkk]
   simp
  rw [hmo,hst0,hgo]
  try simp only [go_sem,seval,hin,hcg,gt,gt2,hdg,gd,hsg,hw1,qI k.regs s.r.toNat rr,qI k.regs s.b.toNat rb]
  repeat refine K ?_
  apply wG (by simp)
  ·repeat' ((first | refine FB 19 1 ?_ | fail); simp only [fS,fS2,fS2,qA,qC,qK,qYy,hdself,hself])
   exact Sub.refl _
  ·simp [-qYj,-gD,wC,jI,qY,qK,hdself,hst,hgo]<;>(first | rfl | exact ⟨rfl,rfl⟩ | exact ⟨rfl,rfl,rfl⟩ | skip)
 obtain ⟨c,hcc⟩:=Int.eq_ofNat_of_zero_le (qP.1 hin).1
 have hgo:mdo m i late=fA ⟨m.codes,m.cores,⟨(jK m.mem.cells k s c late).1⟩,m.tr⟩ i (jK m.mem.cells k s c late).2 (k.at_+1):=by
  unfold mdo
  rw [hkk,hstp]
  rw [hcc] at hin
  simp only [h12,h13,hmm,hcc,hin,if_true,if_false,Int.toNat_natCast]
 have hmo:qGt m i s late=(⟨m.codes,m.cores.set i (jK m.mem.cells k s c late).2,⟨(jK m.mem.cells k s c late).1⟩,m.tr⟩,true):=by
  unfold qGt
  rw [hkk,hin,hcc]
  rfl
 rw [hmo]
 generalize hacc:jK m.mem.cells k s c late=r at *
 have hcg2:=jZ .own (m.cores.set i r.2) i (by rw [List.length_set]; exact hi)
 rw [wF _ _ _ _ hi] at hcg2
 try simp only [go_sem,seval,hcg2,hcg,gt,gt2,hdg,gd,hsg,hw1,qI k.regs s.r.toNat rr,qI k.regs s.b.toNat rb]
 repeat refine K ?_
 by_cases hn:(cd.length:Int)≤k.at_+1
 ·rw [hst0,hgo,bP (m:=⟨m.codes,m.cores,⟨r.1⟩,m.tr⟩) (show _ by simp only [hcd]; exact hn)]
  simp only [go_sem,seval,hn,hcg2,hcg,gt,gt2,hdg,gd,hsg,hw1,qI k.regs s.r.toNat rr,qI k.regs s.b.toNat rb]
  repeat refine K ?_
  apply wG (by simp)
  ·repeat' ((first | refine FB 18 0 ?_ | fail); simp only [fS,fS2,fS2,qA,qC,qK,qYy,hdself])
   exact Sub.refl _
  ·simp [-qYj,-gD,wC,jI,qY,qK,hdself,hst,yP,wR,qYy]<;>(first | rfl | exact ⟨rfl,rfl⟩ | exact ⟨rfl,rfl,rfl⟩ | skip)
 ·rw [hst0,hgo,uG (m:=⟨m.codes,m.cores,⟨r.1⟩,m.tr⟩) (show _ by simp only [hcd]; exact hn)]
  simp only [go_sem,seval,hn,hcg2,hcg,gt,gt2,hdg,gd,hsg,hw1,qI k.regs s.r.toNat rr,qI k.regs s.b.toNat rb]
  repeat refine K ?_
  apply wG (by simp)
  ·repeat' ((first | refine FB 18 0 ?_ | fail); simp only [fS,fS2,fS2,qA,qC,qK,qYy,hdself])
   exact Sub.refl _
  ·simp [-qYj,-gD,wC,jI,qY,qK,hdself,hst,yP,wR,qYy]<;>(first | rfl | exact ⟨rfl,rfl⟩ | exact ⟨rfl,rfl,rfl⟩ | skip)
theorem qOm (m:wA) (i:Nat) (late:Int) (hM:MOk m) (hi:i<m.cores.length) (hst:(qJ m i).st=0) (hc:(yF m ⟨i,late⟩).2≠0) (hl:-(2^63)≤late∧late<2^63) :
  qU Tryz.prog num 357 [mJ m,.agg (fG ⟨i,late⟩)] (qIl m) (.tup [mJ m,.int .i64 3]):=by
 refine qTq (m:=m357) (f:=357) (fn:=Tryz.f70) Tryz.func70 (by kernel_rfl) rfl c357 rfl (by simp [Tryz.f70]) (by simp [vI,bnd,eM,qDg,tF,qKz,yZ]) (qQ8 m) ?_
 unfold m357
 have n4:=hM.n4
 have hcl:=hM.cores
 have hj:i<m.codes.length:=by omega
 have hK:=hM.core i hi
 have e1:=hK.at0
 have e2:=hK.at1
 have e4:=hK.regs
 have e6:=hK.view
 have hso:=aY hM hi
 have hcg:=jZ .own m.cores i hi
 have gt :∀r,((cores .own m.cores).set i r).getD i []=r:=fun r=>wF _ _ _ _ (by rw [jT]; exact hi)
 have gt2 :∀k r,((cores .own (m.cores.set i k)).set i r).getD i []=r:=fun k r=>wF _ _ _ _ (by rw [jT,List.length_set]; exact hi)
 have hdg:=aO .own m.codes i hj
 have gd :∀r,((codes .own m.codes).set i r).getD i []=r:=fun r=>wF _ _ _ _ (by rw [gG]; exact hj)
 have hdself:(codes .own m.codes).set i [.sl .own 5 (jB (m.codes.getD i []))]=codes .own m.codes:=by rw [←hdg,wP _ _ _ (by rw [gG]; exact hj)]
 have hcself:(cores .own m.cores).set i [.int .i64 (qJ m i).at_,.sl .own 1 (wQ (qJ m i).regs),.sl .own 1 (wQ (qJ m i).view),.int .i64 (qJ m i).st]=cores .own m.cores:=by rw [show qJ m i=m.cores.getD i default from rfl,←hcg,wP _ _ _ (by rw [jT]; exact hi)]
 have hsg:=aK (m.codes.getD i []) (qJ m i).at_.toNat (by omega)
 have hl800:(m.codes.getD i []).length≤800:=by
  have:=hK.code
  unfold bZ at this
  simp only [qWu,qP] at this
  omega
 generalize hkk:qJ m i=k at *
 have hkk':m.cores.getD i default=k:=hkk
 rw [hkk'] at hcg
 have hss:(m.codes.getD i []).getD k.at_.toNat default=wD m i:=by rw [←hkk]; rfl
 rw [hss] at hsg
 generalize hstp:wD m i=s at *
 generalize hcd:m.codes.getD i []=cd at *
 have hw1:IntKind.i64.wrap (k.at_+1)=k.at_+1:=wM (by omega) (by omega)
 obtain ⟨r0,r1,b0,b1,op1,op13,a7⟩:=dB hso
 have rr:s.r.toNat<k.regs.length:=by omega
 have rb:s.b.toNat<k.regs.length:=by omega
 have hself:m.cores.set i ⟨k.at_,k.regs,k.view,k.st⟩=m.cores:=by rw [←hkk']; exact wP _ _ _ hi
 simp only [go_sem,seval,mJ,qIl,hcg,gt,gt2,hdg,gd,hsg,hw1,qI k.regs s.r.toNat rr,qI k.regs s.b.toNat rb]
 repeat refine K ?_
 by_cases h9:s.op=9
 ·have htr:(m.tr.length:Int)=4000:=by
   apply Decidable.byContradiction
   intro e
   rw [vE (late:=late) hkk hstp hi hst (fun h=>e h.2) (by simp [jH,h9])] at hc
   exact hc rfl
  simp only [go_sem,seval,h9,htr,hcg,gt,gt2,hdg,gd,hsg,hw1,qI k.regs s.r.toNat rr,qI k.regs s.b.toNat rb]
  apply mE (by simp)
  ·repeat' ((first | refine FB 1 1 ?_ | refine FB 1 2 ?_ | refine FB 0 0 ?_ | fail); simp only [fS,fS2,fS2,qA,qC,qK,qYy,hdself,hself,hcself])
   exact Sub.refl _
  ·simp [-qYj,-gD,wC,jI,qY,qK,hdself,hst,hself]<;>(first | rfl | exact ⟨rfl,rfl⟩ | exact ⟨rfl,rfl,rfl⟩ | skip)
 have h9' :∀P:Prop,¬(s.op=9∧P):=fun P e=>h9 e.1
 have hfull:(jH s.op&&!decide (s.op=5)&&qO (wK k s) 0 23&&decide ((4000:Int)≤(m.mem.cells.getD (wK k s).toNat []).length))=true:=by
  cases hq:(jH s.op&&!decide (s.op=5)&&qO (wK k s) 0 23&&decide ((4000:Int)≤(m.mem.cells.getD (wK k s).toNat []).length)) with
  | true=>rfl
  | false =>
   rw [vE (late:=late) hkk hstp hi hst (h9' _) hq] at hc
   exact absurd rfl hc
 have hmm:jH s.op=true:=by
  simp only [qWu] at hfull
  exact hfull.1.1.1
 have hop:s.op=5∨s.op=6∨s.op=7∨s.op=8:=by
  simp only [jH,Bool.or_eq_true,decide_eq_true_eq] at hmm
  omega
 have hmf:=qGq hM hi hmm
 rw [hkk,hfull] at hmf
 have hmd:=qF3 m i late s hM.mem hi (by rw [hkk]; exact e4) (by rw [hkk]; exact e6) hl r0 r1 b0 b1 (by omega) hop hmf
 have h1 :¬s.op=1:=by omega
 have h2 :¬s.op=2:=by omega
 have h3 :¬s.op=3:=by omega
 have h4 :¬s.op=4:=by omega
 have h10 :¬s.op=10:=by omega
 have h11 :¬s.op=11:=by omega
 have h12 :¬s.op=12:=by omega
 have h13 :¬s.op=13:=by omega
 simp only [go_sem,seval,h1,h2,h3,h4,h9,h10,h11,h12,h13,hcg,gt,gt2,hdg,gd,hsg,hw1,qI k.regs s.r.toNat rr,qI k.regs s.b.toNat rb]
 apply uU
 ·refine FA 1 1 13 ?_
  simp only [fS,fS2,fS2,qA,qC,qK,qYy]
  refine FA 1 2 14 ?_
  simp only [fS,fS2,fS2,qA,qC,hcself,qK,qYy]
  refine FA 0 0 16 ?_
  simp only [fS,fS2,fS2,qA,qC,hdself]
  exact Sub.refl _
 refine CA [(0,0),(1,1),(2,2),(3,3)] (hmd) ?_
 try simp only [go_sem,seval]
 apply mE (by simp)
 ·repeat' ((first | refine FB 1 1 ?_ | refine FB 1 2 ?_ | refine FB 0 0 ?_ | fail); simp only [fS,fS2,fS2,qA,qC,qK,qYy,hdself,hself,hcself])
  exact Sub.refl _
 ·simp [-qYj,-gD,wC,jI,qY,qK,hdself,hst,hself]<;>(first | rfl | exact ⟨rfl,rfl⟩ | exact ⟨rfl,rfl,rfl⟩ | skip)
end Go.Sep
