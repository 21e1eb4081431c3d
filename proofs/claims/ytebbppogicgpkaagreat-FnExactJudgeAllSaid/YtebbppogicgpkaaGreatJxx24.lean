/- Contracts of functions. -/
import Derived.Test.YtebbppogicgpkaaGreatJxx23
open Int renaming eq_ofNat_of_zero_le → qYv
open List renaming drop_one → qYj, getD_eq_getElem?_getD → qWw, length_set → qYb, set_set → qYy
namespace Go.Sep
set_option maxHeartbeats 16000000
open Go.Proofs
set_option linter.unusedSimpArgs false
set_option linter.unusedVariables false
set_option maxRecDepth 100000
open Nat renaming reduceAdd → qA, reduceMul → qB, reduceEqDiff → qC, reduceBEq → qD
open Int renaming reduceToNat → qE, reduceEq → qF, reduceLT → qG, reduceLE → qH
open List renaming getD_eq_getElem?_getD → gD
def m359:MFn:=⟨255,[.t 4],kr [xb 3 1,xI 4 0] (.seq (kr [xv 10 0,xa 11 0 3,xl 12 11,xc2 13 229 (.t 10) (.t 12),xN 14 13] (kF 14 [xI 4 2])) (.seq (.dreg (.take 0 (xv 15 0) (.take 1 (xk 16 15) (.take 2 (xa 17 1 16) (.take 3 (xl 18 17) (.only 4 [] (xa 19 0 3) (.only 5 [] (xl 20 19) (.only 6 [3,2,1,0] (xD 21 4 18 20) (.only 7 [0,1,2,3] (xv 5 21) (.done)))))))))) (.seq (.dreg (.take 0 (xv 22 0) (.take 1 (xk 23 22) (.take 2 (xa 24 0 23) (.take 3 (xl 25 24) (.take 4 (xa 26 0 3) (.take 5 (xl 27 26) (.take 6 (xD 28 1 25 27) (.take 7 (xl 29 28) (.take 8 (xv 30 5) (.take 9 (xk 31 30) (.take 10 (xa 32 0 31) (.take 11 (xl 33 32) (.take 12 (xD 34 5 29 33) (.take 13 (xm 35 5 34) (.only 14 [] (xo 6 (.alloc [xz,xz,xz,xz,xz])) (.only 15 [0,1,2,3,4,5,6,7,8,9,10,11,12,13] (xS 5 6 35) (.done)))))))))))))))))) (.seq (kr [xv 36 5,xk 37 36,xa 38 3 37,xl 39 38,bI 40 .neq 39 0,xv 41 40,za 42 0 6 41,zl 43 1 42 41,zI 44 .eql 43 9 41,zv 45 44 41,yv 46 0 45,xg 47 (.nilck (.t 46)) 45 true,ya 48 3 47 45,yl 49 1 48 45,ye 50 49 45,yI 51 .eql 50 4000 45,xg 52 (.pick (.t 45) (.t 51) (.c (.bool false))) 41 false,xQ 53 41 52] (kF 53 [xI 4 3])) (kr [xv 54 5,xk 55 54,xa 56 0 55,xl 57 56,bI 58 .add 57 1,xv 7 58] (.seq (kr [xa 59 0 6,xl 60 59] (.blk 0 (kr [bI 62 .eql 60 1,xv 61 62] (.cond 61 (.dreg (.take 0 (xv 63 5) (.take 1 (xk 64 63) (.take 2 (xa 65 1 64) (.take 3 (xl 66 65) (.take 4 (xa 67 1 6) (.take 5 (xl 68 67) (.only 6 [] (xa 69 4 6) (.only 7 [] (xl 70 69) (.only 8 [0,1,2,3,4,5] (xD 71 1 66 68) (.only 9 [0,1,2,3,4,5] (xS 1 71 70) (.done)))))))))))) (kr [bI 73 .eql 60 2,xv 72 73] (.cond 72 (.dreg (.take 0 (xv 74 5) (.take 1 (xk 75 74) (.take 2 (xa 76 1 75) (.take 3 (xl 77 76) (.take 4 (xa 78 1 6) (.take 5 (xl 79 78) (.take 6 (xv 80 5) (.take 7 (xk 81 80) (.take 8 (xa 82 1 81) (.take 9 (xl 83 82) (.take 10 (xa 84 2 6) (.take 11 (xl 85 84) (.take 12 (xD 86 1 83 85) (.take 13 (xl 87 86) (.take 14 (xv 88 5) (.take 15 (xk 89 88) (.take 16 (xa 90 1 89) (.take 17 (xl 91 90) (.only 18 [] (xa 92 3 6) (.only 19 [] (xl 93 92) (.only 20 [17,16,15,14] (xD 94 1 91 93) (.only 21 [20,17,16,15,14] (xl 95 94) (.only 22 [13,21,12,20,9,11,17,8,10,16,7,15,6,14] (bT 96 .add 87 95) (.only 23 [0,1,2,3,4,5,6,7,8,9,10,11,12,13,14,15,16,17] (xD 97 1 77 79) (.only 24 [0,1,2,3,4,5,6,7,8,9,10,11,12,13,14,15,16,17] (xS 1 97 96) (.done))))))))))))))))))))))))))) (kr [bI 99 .eql 60 3,xv 98 99] (.cond 98 (.dreg (.take 0 (xv 100 5) (.take 1 (xk 101 100) (.take 2 (xa 102 1 101) (.take 3 (xl 103 102) (.take 4 (xa 104 1 6) (.take 5 (xl 105 104) (.take 6 (xv 106 5) (.take 7 (xk 107 106) (.take 8 (xa 108 1 107) (.take 9 (xl 109 108) (.take 10 (xa 110 2 6) (.take 11 (xl 111 110) (.take 12 (xD 112 1 109 111) (.take 13 (xl 113 112) (.take 14 (xv 114 5) (.take 15 (xk 115 114) (.take 16 (xa 116 1 115) (.take 17 (xl 117 116) (.only 18 [] (xa 118 3 6) (.only 19 [] (xl 119 118) (.only 20 [17,16,15,14] (xD 120 1 117 119) (.only 21 [20,17,16,15,14] (xl 121 120) (.only 22 [13,21,12,20,9,11,17,8,10,16,7,15,6,14] (bT 122 .sub 113 121) (.only 23 [0,1,2,3,4,5,6,7,8,9,10,11,12,13,14,15,16,17] (xD 123 1 103 105) (.only 24 [0,1,2,3,4,5,6,7,8,9,10,11,12,13,14,15,16,17] (xS 1 123 122) (.done))))))))))))))))))))))))))) (kr [bI 125 .eql 60 4,xv 124 125] (.cond 124 (.dreg (.take 0 (xv 126 5) (.take 1 (xk 127 126) (.take 2 (xa 128 1 127) (.take 3 (xl 129 128) (.take 4 (xa 130 1 6) (.take 5 (xl 131 130) (.take 6 (xv 132 5) (.take 7 (xk 133 132) (.take 8 (xa 134 1 133) (.take 9 (xl 135 134) (.take 10 (xa 136 2 6) (.take 11 (xl 137 136) (.take 12 (xD 138 1 135 137) (.take 13 (xl 139 138) (.take 14 (xv 140 5) (.take 15 (xk 141 140) (.take 16 (xa 142 1 141) (.take 17 (xl 143 142) (.only 18 [] (xa 144 3 6) (.only 19 [] (xl 145 144) (.only 20 [17,16,15,14] (xD 146 1 143 145) (.only 21 [20,17,16,15,14] (xl 147 146) (.only 22 [13,21,12,20,9,11,17,8,10,16,7,15,6,14] (bT 148 .lss 139 147) (.only 23 [22,13,21,12,20,9,11,17,8,10,16,7,15,6,14] (xc1 149 78 (.t 148)) (.only 24 [0,1,2,3,4,5,6,7,8,9,10,11,12,13,14,15,16,17] (xD 150 1 129 131) (.only 25 [0,1,2,3,4,5,6,7,8,9,10,11,12,13,14,15,16,17] (xS 1 150 149) (.done)))))))))))))))))))))))))))) (.seq (kr [bI 152 .eql 60 5,xv 151 152] (.cond 151 (.skip) (kr [bI 153 .eql 60 6,xv 151 153] (.cond 151 (.skip) (kr [bI 154 .eql 60 7,xv 151 154] (.cond 151 (.skip) (xr [bI 155 .eql 60 8,xv 151 155]))))))) (.cond 151 (kr [xv 157 5,xm 158 5 6,xc2 159 367 (.t 157) (.t 158),xv 156 159,xX 160 156 0,xX 161 156 1,xv 8 160,xv 9 161] (.seq (kr [xv 162 9,xv 163 162,ya 164 0 6 163,yl 165 1 164 163,yI 166 .neq 165 5 163,xP 167 163 166,xv 168 167,yv 169 0 168,xg 170 (.nilck (.t 169)) 168 true,ya 171 2 170 168,yv 172 8 168,xg 173 (.call 368 [true,false] [.t 171,.t 172]) 168 true,yN 174 173 168,xP 175 168 174] (kF 175 [xI 4 3])) (.seq (kr [xv 176 9,xN 177 176] (.cond 177 (kr [xv 178 5,xk 179 178,xa 180 3 179,⟨none,.store 1 (.t 180) (xi 2),none⟩] (kR [xI 4 0])) (.skip))) (xr [xv 181 0,xv 182 5,xm 183 5 6,xv 184 8,xa 185 1 3,xl 186 185,xo 187 (.call 369 [true,true,false,false,false] [.t 181,.t 182,.t 183,.t 184,.t 186])])))) (kr [bI 189 .eql 60 9,xv 188 189] (.cond 188 (.dreg (.take 0 (xv 190 0) (.take 1 (xv 191 0) (.take 2 (xk 192 191) (.take 3 (xa 193 3 192) (.take 4 (xl 194 193) (.take 5 (xa 195 0 3) (.take 6 (xl 196 195) (.take 7 (xv 197 5) (.take 8 (xk 198 197) (.take 9 (xa 199 1 198) (.take 10 (xl 200 199) (.only 11 [] (xa 201 2 6) (.only 12 [] (xl 202 201) (.only 13 [10,9,8,7] (xD 203 1 200 202) (.only 14 [13,10,9,8,7] (xl 204 203) (.only 15 [6,14,5,13,10,9,8,7] (xo 205 (.build [xz,xz] [(0,1,.t 196),(1,1,.t 204)])) (.only 16 [15,6,14,5,13,10,9,8,7] (xo 206 (.mkSl [xz,xz] 1 [(0,.t 205)])) (.only 17 [4,16,3,15,2,6,14,1,5,13,10,9,8,7] (xA 207 2 16 194 206) (.only 18 [0,1,2,3,4,5,6,7,8,9,10] (xk 208 190) (.only 19 [0,1,2,3,4,5,6,7,8,9,10] (xa 209 3 208) (.only 20 [0,1,2,3,4,5,6,7,8,9,10] (xS 1 209 207) (.done))))))))))))))))))))))) (kr [bI 211 .eql 60 10,xv 210 211] (.cond 210 (xr [xa 212 4 6,xl 213 212,xv 7 213]) (kr [bI 215 .eql 60 11,xv 214 215] (.cond 214 (.seq (.dreg (.take 0 (xv 216 5) (.take 1 (xk 217 216) (.take 2 (xa 218 1 217) (.take 3 (xl 219 218) (.only 4 [] (xa 220 2 6) (.only 5 [] (xl 221 220) (.only 6 [3,2,1,0] (xD 222 1 219 221) (.only 7 [6,3,2,1,0] (xl 223 222) (.only 8 [7,6,3,2,1,0] (bI 224 .eql 223 0) (.done))))))))))) (.cond 224 (xr [xa 225 4 6,xl 226 225,xv 7 226]) (.skip))) (kr [bI 228 .eql 60 12,xv 227 228] (.cond 227 (kr [xv 229 5,xk 230 229,xa 231 3 230,⟨none,.store 1 (.t 231) (xi 1),none⟩] (kR [xI 4 0])) (kr [bI 233 .eql 60 13,xv 232 233] (.cond 232 (kr [xv 234 5,xk 235 234,xa 236 3 235,⟨none,.store 1 (.t 236) (xi 2),none⟩] (kR [xI 4 0])) (.skip))))))))))))))))))))))) (.seq (.seq (.dreg (.take 0 (xv 237 7) (.take 1 (xv 238 0) (.take 2 (xk 239 238) (.take 3 (xa 240 0 239) (.take 4 (xl 241 240) (.only 5 [] (xa 242 0 3) (.only 6 [] (xl 243 242) (.only 7 [4,3,2,1] (xD 244 1 241 243) (.only 8 [7,4,3,2,1] (xl 245 244) (.only 9 [8,7,4,3,2,1] (xe 246 245) (.only 10 [0,9,8,7,4,3,2,1] (bT 247 .geq 237 246) (.done))))))))))))) (.cond 247 (kr [xv 248 5,xk 249 248,xa 250 3 249,⟨none,.store 1 (.t 250) (xi 2),none⟩] (kR [xI 4 0])) (.skip))) (kr [xv 251 5,xv 252 7,xk 253 251,xa 254 0 253,xS 1 254 252] (kR [xI 4 0])))))))))⟩
theorem qN8 (m:wA) (x:uF) (h:jG m=true) (hx:-(2^63)≤x.late∧x.late<2^63):qU Tryz.prog num 359 [.ptr 0 0 0,.agg (fG x)] [(0,some (4,[qY .own m]),some (4,[qY .own (yF m x).1]))] (.int .i64 (yF m x).2):=by
 have hM:=(jJ m).1 h
 have n4:=hM.n4
 have hcl:=hM.cores
 refine EH m359 Tryz.func134 ?_
 unfold m359
 simp only [go_sem,seval]
 refine CA [] (qDo m x.who (by omega)) ?_
 try simp only [go_sem,seval]
 cases hw:qO x.who 0 (m.cores.length-1)
 ·try simp only [go_sem,seval,hw]
  refine fz ?_; simp [qX,qQ,qR,qL,-qYj]
  simp [yF,aG,hw]
 rw [qP] at hw
 obtain ⟨i,hxi⟩:=qYv hw.1
 obtain ⟨who,late⟩:=x
 simp only at hxi hx hw
 subst hxi
 have hi:i<m.cores.length:=by omega
 have hj:i<m.codes.length:=by omega
 have hK:=hM.core i hi
 have e1:=hK.at0
 have e2:=hK.at1
 have e4:=hK.regs
 have e6:=hK.view
 have hso:=aY hM hi
 have hcg:=jZ .own m.cores i hi
 have gt :∀r,((cores .own m.cores).set i r).getD i []=r:=fun r=>wF _ _ _ _ (by rw [jT]; exact hi)
 have gt2 :∀k r,((cores .own (m.cores.set i k)).set i r).getD i []=r:=fun k r=>wF _ _ _ _ (by rw [jT,qYb]; exact hi)
 have hdg:=aO .own m.codes i hj
 have gd :∀r,((codes .own m.codes).set i r).getD i []=r:=fun r=>wF _ _ _ _ (by rw [gG]; exact hj)
 have hdself:(codes .own m.codes).set i [.sl .own 5 (jB (m.codes.getD i []))]=codes .own m.codes:=by rw [←hdg,wP _ _ _ (by rw [gG]; exact hj)]
 have hcself:(cores .own m.cores).set i [.int .i64 (qJ m i).at_,.sl .own 1 (wQ (qJ m i).regs),.sl .own 1 (wQ (qJ m i).view),.int .i64 (qJ m i).st]=cores .own m.cores:=by rw [show qJ m i=m.cores.getD i default from rfl,←hcg,wP _ _ _ (by rw [jT]; exact hi)]
 have hsg:=aK (m.codes.getD i []) (qJ m i).at_.toNat (by omega)
 have ha:(qJ m i).at_.toNat<(m.codes.getD i []).length:=by omega
 have hl800:(m.codes.getD i []).length≤800:=by
  have:=hK.code
  unfold bZ at this
  simp only [Bool.and_eq_true,qP] at this
  omega
 generalize hkk:qJ m i=k at *
 have hkk':m.cores.getD i default=k:=hkk
 rw [hkk'] at hcg
 have hss:(m.codes.getD i []).getD k.at_.toNat default=wD m i:=by rw [←hkk]; rfl
 rw [hss] at hsg
 generalize hstp:wD m i=s at *
 generalize hcd:m.codes.getD i []=cd at *
 have hw1:IntKind.i64.wrap (k.at_+1)=k.at_+1:=wM (by omega) (by omega)
 obtain ⟨r0,r1,b0,b1,op1,op13,a7⟩:=dB hso
 have rr:s.r.toNat<k.regs.length:=by omega
 have rb:s.b.toNat<k.regs.length:=by omega
 try simp only [go_sem,seval,hcg,gt,hdg,gd,hsg]
 repeat refine K ?_
 by_cases hst:k.st=0
 case neg =>
  have hov:=eN (late:=late) hkk hstp hi (.inl (.inl hst))
  rw [hov]
  try simp only [go_sem,seval,hst,hcg,gt,gt2,hdg,gd,hsg,hw1,qI k.regs s.r.toNat rr,qI k.regs s.b.toNat rb]
  apply wS
  ·repeat' ((first | refine FB 11 1 ?_ | refine FB 12 0 ?_ | refine F2 0 0 ?_ | refine F2 0 3 ?_ | refine F2 0 1 ?_ | fail); simp only [fS,fS2,fS2,qA,qC,qK,hdself,qYy])
   exact Sub.refl _
  ·simp [-qYj,-gD,wC,jI,qY,qK,hdself,hst]<;>(first | rfl | exact ⟨rfl,rfl⟩ | exact ⟨rfl,rfl,rfl⟩ | skip)
 by_cases h9:s.op=9
 ·by_cases htr:(m.tr.length:Int)=4000
  ·have hov:=eN (late:=late) hkk hstp hi (.inl (.inr ⟨h9,htr⟩))
   rw [hov]
   try simp only [go_sem,seval,hst,h9,htr,hcg,gt,gt2,hdg,gd,hsg,hw1,qI k.regs s.r.toNat rr,qI k.regs s.b.toNat rb]
   apply wS
   ·repeat' ((first | refine FB 11 1 ?_ | refine FB 12 0 ?_ | refine F2 0 0 ?_ | refine F2 0 3 ?_ | refine F2 0 1 ?_ | fail); simp only [fS,fS2,fS2,qA,qC,qK,hdself,qYy])
    exact Sub.refl _
   ·simp [-qYj,-gD,wC,jI,qY,qK,hdself,hst]<;>(first | rfl | exact ⟨rfl,rfl⟩ | exact ⟨rfl,rfl,rfl⟩ | skip)
  have hst0:=vE (late:=late) hkk hstp hi hst (fun e=>htr e.2) (by simp [jH,h9])
  have ra:s.a.toNat<k.regs.length:=by omega
  have hgo:mdo m i late=fA ⟨m.codes,m.cores,m.mem,m.tr++[⟨i,k.regs.getD s.a.toNat 0⟩]⟩ i k (k.at_+1):=by
   unfold mdo
   simp [hkk,hstp,h9,jH,rg]
  have htl:m.tr.length≤4000:=by
   have:=hM.tr
   unfold bG at this
   simp only [Bool.and_eq_true,decide_eq_true_eq] at this
   omega
  try simp only [go_sem,seval,hst,h9,htr,hcg,gt,gt2,hdg,gd,hsg,hw1,qI k.regs s.r.toNat rr,qI k.regs s.b.toNat rb,qI k.regs s.a.toNat ra]
  repeat refine K ?_
  by_cases hn:(cd.length:Int)≤k.at_+1
  ·rw [hst0,hgo,bP (by rw [hcd]; exact hn)]
   simp only [go_sem,seval,hn,hcg,gt,gt2,hdg,gd,hsg,hw1,qI k.regs s.r.toNat rr,qI k.regs s.b.toNat rb,qI k.regs s.a.toNat ra]
   repeat refine K ?_
   apply wS
   ·repeat' ((first | refine FB 11 1 ?_ | refine FB 12 0 ?_ | refine F2 0 0 ?_ | refine F2 0 3 ?_ | refine F2 0 1 ?_ | fail); simp only [fS,fS2,fS2,qA,qC,qK,hdself,qYy])
    exact Sub.refl _
   ·simp [-qYj,-gD,wC,jI,qY,qK,hdself,hst,yP,wR]<;>(first | rfl | exact ⟨rfl,rfl⟩ | exact ⟨rfl,rfl,rfl⟩ | skip)
  ·rw [hst0,hgo,uG (by rw [hcd]; exact hn)]
   simp only [go_sem,seval,hn,hcg,gt,gt2,hdg,gd,hsg,hw1,qI k.regs s.r.toNat rr,qI k.regs s.b.toNat rb,qI k.regs s.a.toNat ra]
   repeat refine K ?_
   apply wS
   ·repeat' ((first | refine FB 11 1 ?_ | refine FB 12 0 ?_ | refine F2 0 0 ?_ | refine F2 0 3 ?_ | refine F2 0 1 ?_ | fail); simp only [fS,fS2,fS2,qA,qC,qK,hdself,qYy])
    exact Sub.refl _
   ·simp [-qYj,-gD,wC,jI,qY,qK,hdself,hst,yP,wR]<;>(first | rfl | exact ⟨rfl,rfl⟩ | exact ⟨rfl,rfl,rfl⟩ | skip)
 have h9' :∀P:Prop,¬(s.op=9∧P):=fun P e=>h9 e.1
 try simp only [go_sem,seval,hst,h9,hcg,gt,gt2,hdg,gd,hsg,hw1,qI k.regs s.r.toNat rr,qI k.regs s.b.toNat rb]
 repeat refine K ?_
 by_cases h1:s.op=1
 ·have ra:s.a.toNat<k.regs.length:=by omega
  have hst0:=vE (late:=late) hkk hstp hi hst (h9' _) (by simp [jH,h1])
  have hgo:mdo m i late=fA m i ⟨k.at_,k.regs.set s.r.toNat s.n,k.view,k.st⟩ (k.at_+1):=by
   unfold mdo
   simp [hkk,hstp,h1,jH,alu,uO,nN,rg]
  simp only [go_sem,seval,h1,hcg,gt,gt2,hdg,gd,hsg,hw1,qI k.regs s.r.toNat rr,qI k.regs s.b.toNat rb,qI k.regs s.a.toNat ra]
  repeat refine K ?_
  by_cases hn:(cd.length:Int)≤k.at_+1
  ·rw [hst0,hgo,bP (by rw [hcd]; exact hn)]
   simp only [go_sem,seval,hn,hcg,gt,gt2,hdg,gd,hsg,hw1,qI k.regs s.r.toNat rr,qI k.regs s.b.toNat rb,qI k.regs s.a.toNat ra]
   repeat refine K ?_
   apply wS
   ·repeat' ((first | refine FB 11 1 ?_ | refine FB 12 0 ?_ | refine F2 0 0 ?_ | refine F2 0 3 ?_ | refine F2 0 1 ?_ | fail); simp only [fS,fS2,fS2,qA,qC,qK,hdself,qYy])
    exact Sub.refl _
   ·simp [-qYj,-gD,wC,jI,qY,qK,hdself,hst,yP,wR]<;>(first | rfl | exact ⟨rfl,rfl⟩ | exact ⟨rfl,rfl,rfl⟩ | skip)
  ·rw [hst0,hgo,uG (by rw [hcd]; exact hn)]
   simp only [go_sem,seval,hn,hcg,gt,gt2,hdg,gd,hsg,hw1,qI k.regs s.r.toNat rr,qI k.regs s.b.toNat rb,qI k.regs s.a.toNat ra]
   repeat refine K ?_
   apply wS
   ·repeat' ((first | refine FB 11 1 ?_ | refine FB 12 0 ?_ | refine F2 0 0 ?_ | refine F2 0 3 ?_ | refine F2 0 1 ?_ | fail); simp only [fS,fS2,fS2,qA,qC,qK,hdself,qYy])
    exact Sub.refl _
   ·simp [-qYj,-gD,wC,jI,qY,qK,hdself,hst,yP,wR]<;>(first | rfl | exact ⟨rfl,rfl⟩ | exact ⟨rfl,rfl,rfl⟩ | skip)
 by_cases h2:s.op=2
 ·have ra:s.a.toNat<k.regs.length:=by omega
  have hst0:=vE (late:=late) hkk hstp hi hst (h9' _) (by simp [jH,h2])
  have hgo:mdo m i late=fA m i ⟨k.at_,k.regs.set s.r.toNat (IntKind.i64.wrap (k.regs.getD s.a.toNat 0+k.regs.getD s.b.toNat 0)),k.view,k.st⟩ (k.at_+1):=by
   unfold mdo
   simp [hkk,hstp,h2,jH,alu,uO,nN,rg]
  simp only [go_sem,seval,h2,hcg,gt,gt2,hdg,gd,hsg,hw1,qI k.regs s.r.toNat rr,qI k.regs s.b.toNat rb,qI k.regs s.a.toNat ra]
  repeat refine K ?_
  by_cases hn:(cd.length:Int)≤k.at_+1
  ·rw [hst0,hgo,bP (by rw [hcd]; exact hn)]
   simp only [go_sem,seval,hn,hcg,gt,gt2,hdg,gd,hsg,hw1,qI k.regs s.r.toNat rr,qI k.regs s.b.toNat rb,qI k.regs s.a.toNat ra]
   repeat refine K ?_
   apply wS
   ·repeat' ((first | refine FB 11 1 ?_ | refine FB 12 0 ?_ | refine F2 0 0 ?_ | refine F2 0 3 ?_ | refine F2 0 1 ?_ | fail); simp only [fS,fS2,fS2,qA,qC,qK,hdself,qYy])
    exact Sub.refl _
   ·simp [-qYj,-gD,wC,jI,qY,qK,hdself,hst,yP,wR]<;>(first | rfl | exact ⟨rfl,rfl⟩ | exact ⟨rfl,rfl,rfl⟩ | skip)
  ·rw [hst0,hgo,uG (by rw [hcd]; exact hn)]
   simp only [go_sem,seval,hn,hcg,gt,gt2,hdg,gd,hsg,hw1,qI k.regs s.r.toNat rr,qI k.regs s.b.toNat rb,qI k.regs s.a.toNat ra]
   repeat refine K ?_
   apply wS
   ·repeat' ((first | refine FB 11 1 ?_ | refine FB 12 0 ?_ | refine F2 0 0 ?_ | refine F2 0 3 ?_ | refine F2 0 1 ?_ | fail); simp only [fS,fS2,fS2,qA,qC,qK,hdself,qYy])
    exact Sub.refl _
   ·simp [-qYj,-gD,wC,jI,qY,qK,hdself,hst,yP,wR]<;>(first | rfl | exact ⟨rfl,rfl⟩ | exact ⟨rfl,rfl,rfl⟩ | skip)
 by_cases h3:s.op=3
 ·have ra:s.a.toNat<k.regs.length:=by omega
  have hst0:=vE (late:=late) hkk hstp hi hst (h9' _) (by simp [jH,h3])
  have hgo:mdo m i late=fA m i ⟨k.at_,k.regs.set s.r.toNat (IntKind.i64.wrap (k.regs.getD s.a.toNat 0-k.regs.getD s.b.toNat 0)),k.view,k.st⟩ (k.at_+1):=by
   unfold mdo
   simp [hkk,hstp,h3,jH,alu,uO,nN,rg]
  simp only [go_sem,seval,h3,hcg,gt,gt2,hdg,gd,hsg,hw1,qI k.regs s.r.toNat rr,qI k.regs s.b.toNat rb,qI k.regs s.a.toNat ra]
  repeat refine K ?_
  by_cases hn:(cd.length:Int)≤k.at_+1
  ·rw [hst0,hgo,bP (by rw [hcd]; exact hn)]
   simp only [go_sem,seval,hn,hcg,gt,gt2,hdg,gd,hsg,hw1,qI k.regs s.r.toNat rr,qI k.regs s.b.toNat rb,qI k.regs s.a.toNat ra]
   repeat refine K ?_
   apply wS
   ·repeat' ((first | refine FB 11 1 ?_ | refine FB 12 0 ?_ | refine F2 0 0 ?_ | refine F2 0 3 ?_ | refine F2 0 1 ?_ | fail); simp only [fS,fS2,fS2,qA,qC,qK,hdself,qYy])
    exact Sub.refl _
   ·simp [-qYj,-gD,wC,jI,qY,qK,hdself,hst,yP,wR]<;>(first | rfl | exact ⟨rfl,rfl⟩ | exact ⟨rfl,rfl,rfl⟩ | skip)
  ·rw [hst0,hgo,uG (by rw [hcd]; exact hn)]
   simp only [go_sem,seval,hn,hcg,gt,gt2,hdg,gd,hsg,hw1,qI k.regs s.r.toNat rr,qI k.regs s.b.toNat rb,qI k.regs s.a.toNat ra]
   repeat refine K ?_
   apply wS
   ·repeat' ((first | refine FB 11 1 ?_ | refine FB 12 0 ?_ | refine F2 0 0 ?_ | refine F2 0 3 ?_ | refine F2 0 1 ?_ | fail); simp only [fS,fS2,fS2,qA,qC,qK,hdself,qYy])
    exact Sub.refl _
   ·simp [-qYj,-gD,wC,jI,qY,qK,hdself,hst,yP,wR]<;>(first | rfl | exact ⟨rfl,rfl⟩ | exact ⟨rfl,rfl,rfl⟩ | skip)
 by_cases h4:s.op=4
 ·have ra:s.a.toNat<k.regs.length:=by omega
  have hst0:=vE (late:=late) hkk hstp hi hst (h9' _) (by simp [jH,h4])
  have hgo:mdo m i late=fA m i ⟨k.at_,k.regs.set s.r.toNat (uK (decide (k.regs.getD s.a.toNat 0<k.regs.getD s.b.toNat 0))),k.view,k.st⟩ (k.at_+1):=by
   unfold mdo
   simp [hkk,hstp,h4,jH,alu,uO,nN,rg]
  simp only [go_sem,seval,h4,hcg,gt,gt2,hdg,gd,hsg,hw1,qI k.regs s.r.toNat rr,qI k.regs s.b.toNat rb,qI k.regs s.a.toNat ra]
  repeat refine K ?_
  refine DA [] (xC (decide (k.regs.getD s.a.toNat 0<k.regs.getD s.b.toNat 0))) ?_
  try simp only [go_sem,seval]
  repeat refine K ?_
  try simp only [go_sem,seval,h4,hcg,gt,gt2,hdg,gd,hsg,hw1,qI k.regs s.r.toNat rr,qI k.regs s.b.toNat rb,qI k.regs s.a.toNat ra]
  repeat refine K ?_
  by_cases hn:(cd.length:Int)≤k.at_+1
  ·rw [hst0,hgo,bP (by rw [hcd]; exact hn)]
   simp only [go_sem,seval,hn,hcg,gt,gt2,hdg,gd,hsg,hw1,qI k.regs s.r.toNat rr,qI k.regs s.b.toNat rb,qI k.regs s.a.toNat ra]
   repeat refine K ?_
   apply wS
   ·repeat' ((first | refine FB 11 1 ?_ | refine FB 12 0 ?_ | refine F2 0 0 ?_ | refine F2 0 3 ?_ | refine F2 0 1 ?_ | fail); simp only [fS,fS2,fS2,qA,qC,qK,hdself,qYy])
    exact Sub.refl _
   ·simp [-qYj,-gD,wC,jI,qY,qK,hdself,hst,yP,wR]<;>(first | rfl | exact ⟨rfl,rfl⟩ | exact ⟨rfl,rfl,rfl⟩ | skip)
  ·rw [hst0,hgo,uG (by rw [hcd]; exact hn)]
   simp only [go_sem,seval,hn,hcg,gt,gt2,hdg,gd,hsg,hw1,qI k.regs s.r.toNat rr,qI k.regs s.b.toNat rb,qI k.regs s.a.toNat ra]
   repeat refine K ?_
   apply wS
   ·repeat' ((first | refine FB 11 1 ?_ | refine FB 12 0 ?_ | refine F2 0 0 ?_ | refine F2 0 3 ?_ | refine F2 0 1 ?_ | fail); simp only [fS,fS2,fS2,qA,qC,qK,hdself,qYy])
    exact Sub.refl _
   ·simp [-qYj,-gD,wC,jI,qY,qK,hdself,hst,yP,wR]<;>(first | rfl | exact ⟨rfl,rfl⟩ | exact ⟨rfl,rfl,rfl⟩ | skip)
 by_cases h10:s.op=10
 ·have hst0:=vE (late:=late) hkk hstp hi hst (h9' _) (by simp [jH,h10])
  have hgo:mdo m i late=fA m i k s.n:=by
   unfold mdo
   simp [hkk,hstp,h10,jH,alu,uO]
  simp only [go_sem,seval,h10,hcg,gt,gt2,hdg,gd,hsg,hw1,qI k.regs s.r.toNat rr,qI k.regs s.b.toNat rb]
  repeat refine K ?_
  by_cases hn:(cd.length:Int)≤s.n
  ·rw [hst0,hgo,bP (by rw [hcd]; exact hn)]
   simp only [go_sem,seval,hn,hcg,gt,gt2,hdg,gd,hsg,hw1,qI k.regs s.r.toNat rr,qI k.regs s.b.toNat rb]
   repeat refine K ?_
   apply wS
   ·repeat' ((first | refine FB 11 1 ?_ | refine FB 12 0 ?_ | refine F2 0 0 ?_ | refine F2 0 3 ?_ | refine F2 0 1 ?_ | fail); simp only [fS,fS2,fS2,qA,qC,qK,hdself,qYy])
    exact Sub.refl _
   ·simp [-qYj,-gD,wC,jI,qY,qK,hdself,hst,yP,wR]<;>(first | rfl | exact ⟨rfl,rfl⟩ | exact ⟨rfl,rfl,rfl⟩ | skip)
  ·rw [hst0,hgo,uG (by rw [hcd]; exact hn)]
   simp only [go_sem,seval,hn,hcg,gt,gt2,hdg,gd,hsg,hw1,qI k.regs s.r.toNat rr,qI k.regs s.b.toNat rb]
   repeat refine K ?_
   apply wS
   ·repeat' ((first | refine FB 11 1 ?_ | refine FB 12 0 ?_ | refine F2 0 0 ?_ | refine F2 0 3 ?_ | refine F2 0 1 ?_ | fail); simp only [fS,fS2,fS2,qA,qC,qK,hdself,qYy])
    exact Sub.refl _
   ·simp [-qYj,-gD,wC,jI,qY,qK,hdself,hst,yP,wR]<;>(first | rfl | exact ⟨rfl,rfl⟩ | exact ⟨rfl,rfl,rfl⟩ | skip)
 by_cases h11:s.op=11
 ·have ra:s.a.toNat<k.regs.length:=by omega
  have hst0:=vE (late:=late) hkk hstp hi hst (h9' _) (by simp [jH,h11])
  simp only [go_sem,seval,h11,hcg,gt,gt2,hdg,gd,hsg,hw1,qI k.regs s.r.toNat rr,qI k.regs s.b.toNat rb,qI k.regs s.a.toNat ra]
  repeat refine K ?_
  by_cases hz:k.regs.getD s.a.toNat 0=0
  ·have hgo:mdo m i late=fA m i k s.n:=by
    unfold mdo
    rw [hkk,hstp]
    simp only [h11,jH,alu,uO,rg,hz]
    simp
   try simp only [go_sem,seval,h11,hz,hcg,gt,gt2,hdg,gd,hsg,hw1,qI k.regs s.r.toNat rr,qI k.regs s.b.toNat rb,qI k.regs s.a.toNat ra]
   repeat refine K ?_
   by_cases hn:(cd.length:Int)≤s.n
   ·rw [hst0,hgo,bP (by rw [hcd]; exact hn)]
    simp only [go_sem,seval,hn,hcg,gt,gt2,hdg,gd,hsg,hw1,qI k.regs s.r.toNat rr,qI k.regs s.b.toNat rb,qI k.regs s.a.toNat ra]
    repeat refine K ?_
    apply wS
    ·repeat' ((first | refine FB 11 1 ?_ | refine FB 12 0 ?_ | refine F2 0 0 ?_ | refine F2 0 3 ?_ | refine F2 0 1 ?_ | fail); simp only [fS,fS2,fS2,qA,qC,qK,hdself,qYy])
     exact Sub.refl _
    ·simp [-qYj,-gD,wC,jI,qY,qK,hdself,hst,yP,wR]<;>(first | rfl | exact ⟨rfl,rfl⟩ | exact ⟨rfl,rfl,rfl⟩ | skip)
   ·rw [hst0,hgo,uG (by rw [hcd]; exact hn)]
    simp only [go_sem,seval,hn,hcg,gt,gt2,hdg,gd,hsg,hw1,qI k.regs s.r.toNat rr,qI k.regs s.b.toNat rb,qI k.regs s.a.toNat ra]
    repeat refine K ?_
    apply wS
    ·repeat' ((first | refine FB 11 1 ?_ | refine FB 12 0 ?_ | refine F2 0 0 ?_ | refine F2 0 3 ?_ | refine F2 0 1 ?_ | fail); simp only [fS,fS2,fS2,qA,qC,qK,hdself,qYy])
     exact Sub.refl _
    ·simp [-qYj,-gD,wC,jI,qY,qK,hdself,hst,yP,wR]<;>(first | rfl | exact ⟨rfl,rfl⟩ | exact ⟨rfl,rfl,rfl⟩ | skip)
  ·have hgo:mdo m i late=fA m i k (k.at_+1):=by
    unfold mdo
    rw [hkk,hstp]
    simp only [h11,jH,alu,uO,rg,hz]
    simp
   try simp only [go_sem,seval,h11,hz,hcg,gt,gt2,hdg,gd,hsg,hw1,qI k.regs s.r.toNat rr,qI k.regs s.b.toNat rb,qI k.regs s.a.toNat ra]
   repeat refine K ?_
   by_cases hn:(cd.length:Int)≤k.at_+1
   ·rw [hst0,hgo,bP (by rw [hcd]; exact hn)]
    simp only [go_sem,seval,hn,hcg,gt,gt2,hdg,gd,hsg,hw1,qI k.regs s.r.toNat rr,qI k.regs s.b.toNat rb,qI k.regs s.a.toNat ra]
    repeat refine K ?_
    apply wS
    ·repeat' ((first | refine FB 11 1 ?_ | refine FB 12 0 ?_ | refine F2 0 0 ?_ | refine F2 0 3 ?_ | refine F2 0 1 ?_ | fail); simp only [fS,fS2,fS2,qA,qC,qK,hdself,qYy])
     exact Sub.refl _
    ·simp [-qYj,-gD,wC,jI,qY,qK,hdself,hst,yP,wR]<;>(first | rfl | exact ⟨rfl,rfl⟩ | exact ⟨rfl,rfl,rfl⟩ | skip)
   ·rw [hst0,hgo,uG (by rw [hcd]; exact hn)]
    simp only [go_sem,seval,hn,hcg,gt,gt2,hdg,gd,hsg,hw1,qI k.regs s.r.toNat rr,qI k.regs s.b.toNat rb,qI k.regs s.a.toNat ra]
    repeat refine K ?_
    apply wS
    ·repeat' ((first | refine FB 11 1 ?_ | refine FB 12 0 ?_ | refine F2 0 0 ?_ | refine F2 0 3 ?_ | refine F2 0 1 ?_ | fail); simp only [fS,fS2,fS2,qA,qC,qK,hdself,qYy])
     exact Sub.refl _
    ·simp [-qYj,-gD,wC,jI,qY,qK,hdself,hst,yP,wR]<;>(first | rfl | exact ⟨rfl,rfl⟩ | exact ⟨rfl,rfl,rfl⟩ | skip)
 by_cases h12:s.op=12
 ·have hst0:=vE (late:=late) hkk hstp hi hst (h9' _) (by simp [jH,h12])
  have hgo:mdo m i late=jI m i ⟨k.at_,k.regs,k.view,1⟩:=by
   unfold mdo
   simp [hkk,hstp,h12,stop]
  rw [hst0,hgo]
  simp only [go_sem,seval,h12,hcg,gt,gt2,hdg,gd,hsg,hw1,qI k.regs s.r.toNat rr,qI k.regs s.b.toNat rb]
  repeat refine K ?_
  apply wS
  ·repeat' ((first | refine FB 11 1 ?_ | refine FB 12 0 ?_ | refine F2 0 0 ?_ | refine F2 0 3 ?_ | refine F2 0 1 ?_ | fail); simp only [fS,fS2,fS2,qA,qC,qK,hdself,qYy])
   exact Sub.refl _
  ·simp [-qYj,-gD,wC,jI,qY,qK,hdself,hst]<;>(first | rfl | exact ⟨rfl,rfl⟩ | exact ⟨rfl,rfl,rfl⟩ | skip)
 by_cases h13:s.op=13
 ·have hst0:=vE (late:=late) hkk hstp hi hst (h9' _) (by simp [jH,h13])
  have hgo:mdo m i late=jI m i ⟨k.at_,k.regs,k.view,2⟩:=by
   unfold mdo
   simp [hkk,hstp,h13,stop]
  rw [hst0,hgo]
  simp only [go_sem,seval,h13,hcg,gt,gt2,hdg,gd,hsg,hw1,qI k.regs s.r.toNat rr,qI k.regs s.b.toNat rb]
  repeat refine K ?_
  apply wS
  ·repeat' ((first | refine FB 11 1 ?_ | refine FB 12 0 ?_ | refine F2 0 0 ?_ | refine F2 0 3 ?_ | refine F2 0 1 ?_ | fail); simp only [fS,fS2,fS2,qA,qC,qK,hdself,qYy])
   exact Sub.refl _
  ·simp [-qYj,-gD,wC,jI,qY,qK,hdself,hst]<;>(first | rfl | exact ⟨rfl,rfl⟩ | exact ⟨rfl,rfl,rfl⟩ | skip)
 have hcgi :∀(hh:i<(cores .own m.cores).length),(cores .own m.cores)[i]'hh=[.int .i64 k.at_,.sl .own 1 (wQ k.regs),.sl .own 1 (wQ k.view),.int .i64 k.st]:=fun hh=>by
  rw [←hcg,qWw,List.getElem?_eq_getElem hh]
  rfl
 have a7':s.op=8→0≤s.a:=fun e=>by omega
 have hca:s.op≠8→0≤s.a→s.a.toNat<k.regs.length:=fun _ _=>by omega
 have hR:okR qMi (cores .own m.cores):=fX _ ((kE _).2 trivial)
 have hR2:okR (fun k=>0=k∨1=k) (cores .own m.cores):=fX _ ((kE _).2 trivial)
 have hin0 :∀c:Nat,c<24→c<m.mem.cells.length:=fun c hc=>by rw [hM.mem.len]; exact hc
 have hgs :∀(late:Int) (c:Nat),jH s.op=true→s.op≠12→s.op≠13→wK k s=c→qO (c:Int) 0 23=true→mdo m i late=fA ⟨m.codes,m.cores,⟨(jK m.mem.cells k s c late).1⟩,m.tr⟩ i (jK m.mem.cells k s c late).2 (k.at_+1):=fun late c hm1 h12 h13 hcc hw=>by
  unfold mdo
  rw [hkk,hstp]
  simp only [h12,h13,hm1,hcc,hw,if_true,if_false,Int.toNat_natCast]
 have hgf :∀(late:Int),jH s.op=true→s.op≠12→s.op≠13→qO (wK k s) 0 23=false→mdo m i late=jI m i ⟨k.at_,k.regs,k.view,2⟩:=fun late hm1 h12 h13 hw=>by
  unfold mdo
  rw [hkk,hstp]
  simp only [h12,h13,hm1,hw,if_true,if_false,stop,hkk]
  simp
 by_cases h5:s.op=5
 ·have hmm:jH s.op=true:=by simp [jH,h5]
  simp only [go_sem,seval,h5,hcg,gt,gt2,hdg,gd,hsg,hw1,qI k.regs s.r.toNat rr,qI k.regs s.b.toNat rb]
  refine CA [] (tR k s hca) ?_
  try simp only [go_sem,seval]
  cases hin:qO (wK k s) 0 23
  ·have hst0:=vE (late:=late) hkk hstp hi hst (h9' _) (by simp [hin])
   rw [hst0,hgf late hmm h12 h13 hin]
   try simp only [go_sem,seval,hin,h5,hcg,gt,gt2,hdg,gd,hsg,hw1,qI k.regs s.r.toNat rr,qI k.regs s.b.toNat rb]
   repeat refine K ?_
   apply wS
   ·repeat' ((first | refine FB 11 1 ?_ | refine FB 12 0 ?_ | refine F2 0 0 ?_ | refine F2 0 3 ?_ | refine F2 0 1 ?_ | fail); simp only [fS,fS2,fS2,qA,qC,qK,hdself,qYy])
    exact Sub.refl _
   ·simp [-qYj,-gD,wC,jI,qY,qK,hdself,hst]<;>(first | rfl | exact ⟨rfl,rfl⟩ | exact ⟨rfl,rfl,rfl⟩ | skip)
  have hin':=qP.1 hin
  obtain ⟨c,hcc⟩:=qYv hin'.1
  have hc:c<24:=by omega
  have hcl24:=hin0 c hc
  rw [hcc] at hin
  have hst0:=vE (late:=late) hkk hstp hi hst (h9' _) (by simp [h5])
  try simp only [go_sem,seval,hin,hcc,h5,hcg,gt,gt2,hdg,gd,hsg,hw1,qI k.regs s.r.toNat rr,qI k.regs s.b.toNat rb]
  apply uU
  ·refine FA 12 0 13 ?_
   simp only [fS,fS2,fS2,qA,qC,hdself]
   refine F1 0 0 12 ?_
   simp only [fS,fS2,fS2,qA,qC]
   exact Sub.refl _
  have hac:=iT m i s c late hM.mem hi (by rw [hkk]; exact e4) (by rw [hkk]; exact e6) hc hx r0 (by omega) b0 (by omega)
  rw [hkk] at hac
  refine CAN [(0,0),(1,11)] (hac) ?_
  try simp only [go_sem,seval]
  repeat refine K ?_
  have hgo:=hgs late c hmm h12 h13 hcc hin
  generalize hacc:jK m.mem.cells k s c late=r at *
  have hcg2:=jZ .own (m.cores.set i r.2) i (by rw [qYb]; exact hi)
  rw [wF _ _ _ _ hi] at hcg2
  try simp only [go_sem,seval,hcg2,hcg,gt,gt2,hdg,gd,hsg,hw1,qI k.regs s.r.toNat rr,qI k.regs s.b.toNat rb]
  repeat refine K ?_
  by_cases hn:(cd.length:Int)≤k.at_+1
  ·rw [hst0,hgo,bP (m:=⟨m.codes,m.cores,⟨r.1⟩,m.tr⟩) (show ((m.codes.getD i []).length:Int)≤_ by rw [hcd]; exact hn)]
   simp only [go_sem,seval,hn,hcg2,hcg,gt,gt2,hdg,gd,hsg,hw1,qI k.regs s.r.toNat rr,qI k.regs s.b.toNat rb]
   repeat refine K ?_
   apply wS
   ·repeat' ((first | refine FB 11 1 ?_ | refine FB 12 0 ?_ | refine FB 13 0 ?_ | refine FB 14 0 ?_ | refine FB 15 0 ?_ | refine FB 16 0 ?_ | refine FB 17 0 ?_ | refine FB 18 0 ?_ | refine FB 19 0 ?_ | refine F2 0 0 ?_ | refine F2 0 3 ?_ | refine F2 0 1 ?_ | fail); simp only [fS,fS2,fS2,qA,qC,qK,hdself,qYy])
    exact Sub.refl _
   ·simp [-qYj,-gD,wC,jI,qY,qK,hdself,hst,qYy]<;>(first | rfl | exact ⟨rfl,rfl⟩ | exact ⟨rfl,rfl,rfl⟩ | skip)
  ·rw [hst0,hgo,uG (m:=⟨m.codes,m.cores,⟨r.1⟩,m.tr⟩) (show¬((m.codes.getD i []).length:Int)≤_ by rw [hcd]; exact hn)]
   simp only [go_sem,seval,hn,hcg2,hcg,gt,gt2,hdg,gd,hsg,hw1,qI k.regs s.r.toNat rr,qI k.regs s.b.toNat rb]
   repeat refine K ?_
   apply wS
   ·repeat' ((first | refine FB 11 1 ?_ | refine FB 12 0 ?_ | refine FB 13 0 ?_ | refine FB 14 0 ?_ | refine FB 15 0 ?_ | refine FB 16 0 ?_ | refine FB 17 0 ?_ | refine FB 18 0 ?_ | refine FB 19 0 ?_ | refine F2 0 0 ?_ | refine F2 0 3 ?_ | refine F2 0 1 ?_ | fail); simp only [fS,fS2,fS2,qA,qC,qK,hdself,qYy])
    exact Sub.refl _
   ·simp [-qYj,-gD,wC,jI,qY,qK,hdself,hst,qYy]<;>(first | rfl | exact ⟨rfl,rfl⟩ | exact ⟨rfl,rfl,rfl⟩ | skip)
 by_cases h6:s.op=6
 ·have hmm:jH s.op=true:=by simp [jH,h6]
  simp only [go_sem,seval,h6,hcg,gt,gt2,hdg,gd,hsg,hw1,qI k.regs s.r.toNat rr,qI k.regs s.b.toNat rb]
  refine CA [] (tR k s hca) ?_
  try simp only [go_sem,seval]
  cases hin:qO (wK k s) 0 23
  ·have hst0:=vE (late:=late) hkk hstp hi hst (h9' _) (by simp [hin])
   rw [hst0,hgf late hmm h12 h13 hin]
   try simp only [go_sem,seval,hin,h6,hcg,gt,gt2,hdg,gd,hsg,hw1,qI k.regs s.r.toNat rr,qI k.regs s.b.toNat rb]
   repeat refine K ?_
   apply wS
   ·repeat' ((first | refine FB 11 1 ?_ | refine FB 12 0 ?_ | refine F2 0 0 ?_ | refine F2 0 3 ?_ | refine F2 0 1 ?_ | fail); simp only [fS,fS2,fS2,qA,qC,qK,hdself,qYy])
    exact Sub.refl _
   ·simp [-qYj,-gD,wC,jI,qY,qK,hdself,hst]<;>(first | rfl | exact ⟨rfl,rfl⟩ | exact ⟨rfl,rfl,rfl⟩ | skip)
  have hin':=qP.1 hin
  obtain ⟨c,hcc⟩:=qYv hin'.1
  have hc:c<24:=by omega
  have hcl24:=hin0 c hc
  rw [hcc] at hin
  try simp only [go_sem,seval,hin,hcc,h6,hcg,gt,gt2,hdg,gd,hsg,hw1,qI k.regs s.r.toNat rr,qI k.regs s.b.toNat rb]
  apply uU
  ·refine FA 12 0 13 ?_
   simp only [fS,fS2,fS2,qA,qC,hdself]
   refine F1 0 0 12 ?_
   simp only [fS,fS2,fS2,qA,qC]
   exact Sub.refl _
  refine CAN [(0,0),(1,11)] (qAx m.codes m.cores.length m.mem.cells m.tr (cores .own m.cores) hR c hcl24) ?_
  try simp only [go_sem,seval]
  by_cases hroom:((m.mem.cells.getD c []).length:Int)<4000
  case neg =>
   have hov:=eN (late:=late) hkk hstp hi (.inr (by rw [hmm,hcc,hin]; simp [-qWw,h6]; omega))
   rw [hov]
   try simp only [go_sem,seval,hroom,hin,hcc,h6,hcg,gt,gt2,hdg,gd,hsg,hw1,qI k.regs s.r.toNat rr,qI k.regs s.b.toNat rb]
   apply wS
   ·repeat' ((first | refine FB 11 1 ?_ | refine FB 12 0 ?_ | refine F2 0 0 ?_ | refine F2 0 3 ?_ | refine F2 0 1 ?_ | fail); simp only [fS,fS2,fS2,qA,qC,qK,hdself,qYy])
    exact Sub.refl _
   ·simp [-qYj,-gD,wC,jI,qY,qK,hdself,hst]<;>(first | rfl | exact ⟨rfl,rfl⟩ | exact ⟨rfl,rfl,rfl⟩ | skip)
  have hst0:=vE (late:=late) hkk hstp hi hst (h9' _) (by rw [hmm,hcc,hin]; simp [-qWw]; omega)
  try simp only [go_sem,seval,hroom,hin,hcc,h6,hcg,gt,gt2,hdg,gd,hsg,hw1,qI k.regs s.r.toNat rr,qI k.regs s.b.toNat rb]
  have hac:=iT m i s c late hM.mem hi (by rw [hkk]; exact e4) (by rw [hkk]; exact e6) hc hx r0 (by omega) b0 (by omega)
  rw [hkk] at hac
  refine CAN [(0,0),(1,11)] (hac) ?_
  try simp only [go_sem,seval]
  repeat refine K ?_
  have hgo:=hgs late c hmm h12 h13 hcc hin
  generalize hacc:jK m.mem.cells k s c late=r at *
  have hcg2:=jZ .own (m.cores.set i r.2) i (by rw [qYb]; exact hi)
  rw [wF _ _ _ _ hi] at hcg2
  try simp only [go_sem,seval,hcg2,hcg,gt,gt2,hdg,gd,hsg,hw1,qI k.regs s.r.toNat rr,qI k.regs s.b.toNat rb]
  repeat refine K ?_
  by_cases hn:(cd.length:Int)≤k.at_+1
  ·rw [hst0,hgo,bP (m:=⟨m.codes,m.cores,⟨r.1⟩,m.tr⟩) (show ((m.codes.getD i []).length:Int)≤_ by rw [hcd]; exact hn)]
   simp only [go_sem,seval,hn,hcg2,hcg,gt,gt2,hdg,gd,hsg,hw1,qI k.regs s.r.toNat rr,qI k.regs s.b.toNat rb]
   repeat refine K ?_
   apply wS
   ·repeat' ((first | refine FB 11 1 ?_ | refine FB 12 0 ?_ | refine FB 13 0 ?_ | refine FB 14 0 ?_ | refine FB 15 0 ?_ | refine FB 16 0 ?_ | refine FB 17 0 ?_ | refine FB 18 0 ?_ | refine FB 19 0 ?_ | refine F2 0 0 ?_ | refine F2 0 3 ?_ | refine F2 0 1 ?_ | fail); simp only [fS,fS2,fS2,qA,qC,qK,hdself,qYy])
    exact Sub.refl _
   ·simp [-qYj,-gD,wC,jI,qY,qK,hdself,hst,qYy]<;>(first | rfl | exact ⟨rfl,rfl⟩ | exact ⟨rfl,rfl,rfl⟩ | skip)
  ·rw [hst0,hgo,uG (m:=⟨m.codes,m.cores,⟨r.1⟩,m.tr⟩) (show¬((m.codes.getD i []).length:Int)≤_ by rw [hcd]; exact hn)]
   simp only [go_sem,seval,hn,hcg2,hcg,gt,gt2,hdg,gd,hsg,hw1,qI k.regs s.r.toNat rr,qI k.regs s.b.toNat rb]
   repeat refine K ?_
   apply wS
   ·repeat' ((first | refine FB 11 1 ?_ | refine FB 12 0 ?_ | refine FB 13 0 ?_ | refine FB 14 0 ?_ | refine FB 15 0 ?_ | refine FB 16 0 ?_ | refine FB 17 0 ?_ | refine FB 18 0 ?_ | refine FB 19 0 ?_ | refine F2 0 0 ?_ | refine F2 0 3 ?_ | refine F2 0 1 ?_ | fail); simp only [fS,fS2,fS2,qA,qC,qK,hdself,qYy])
    exact Sub.refl _
   ·simp [-qYj,-gD,wC,jI,qY,qK,hdself,hst,qYy]<;>(first | rfl | exact ⟨rfl,rfl⟩ | exact ⟨rfl,rfl,rfl⟩ | skip)
 by_cases h7:s.op=7
 ·have hmm:jH s.op=true:=by simp [jH,h7]
  simp only [go_sem,seval,h7,hcg,gt,gt2,hdg,gd,hsg,hw1,qI k.regs s.r.toNat rr,qI k.regs s.b.toNat rb]
  refine CA [] (tR k s hca) ?_
  try simp only [go_sem,seval]
  cases hin:qO (wK k s) 0 23
  ·have hst0:=vE (late:=late) hkk hstp hi hst (h9' _) (by simp [hin])
   rw [hst0,hgf late hmm h12 h13 hin]
   try simp only [go_sem,seval,hin,h7,hcg,gt,gt2,hdg,gd,hsg,hw1,qI k.regs s.r.toNat rr,qI k.regs s.b.toNat rb]
   repeat refine K ?_
   apply wS
   ·repeat' ((first | refine FB 11 1 ?_ | refine FB 12 0 ?_ | refine F2 0 0 ?_ | refine F2 0 3 ?_ | refine F2 0 1 ?_ | fail); simp only [fS,fS2,fS2,qA,qC,qK,hdself,qYy])
    exact Sub.refl _
   ·simp [-qYj,-gD,wC,jI,qY,qK,hdself,hst]<;>(first | rfl | exact ⟨rfl,rfl⟩ | exact ⟨rfl,rfl,rfl⟩ | skip)
  have hin':=qP.1 hin
  obtain ⟨c,hcc⟩:=qYv hin'.1
  have hc:c<24:=by omega
  have hcl24:=hin0 c hc
  rw [hcc] at hin
  try simp only [go_sem,seval,hin,hcc,h7,hcg,gt,gt2,hdg,gd,hsg,hw1,qI k.regs s.r.toNat rr,qI k.regs s.b.toNat rb]
  apply uU
  ·refine FA 12 0 13 ?_
   simp only [fS,fS2,fS2,qA,qC,hdself]
   refine F1 0 0 12 ?_
   simp only [fS,fS2,fS2,qA,qC]
   exact Sub.refl _
  refine CAN [(0,0),(1,11)] (qAx m.codes m.cores.length m.mem.cells m.tr (cores .own m.cores) hR c hcl24) ?_
  try simp only [go_sem,seval]
  by_cases hroom:((m.mem.cells.getD c []).length:Int)<4000
  case neg =>
   have hov:=eN (late:=late) hkk hstp hi (.inr (by rw [hmm,hcc,hin]; simp [-qWw,h7]; omega))
   rw [hov]
   try simp only [go_sem,seval,hroom,hin,hcc,h7,hcg,gt,gt2,hdg,gd,hsg,hw1,qI k.regs s.r.toNat rr,qI k.regs s.b.toNat rb]
   apply wS
   ·repeat' ((first | refine FB 11 1 ?_ | refine FB 12 0 ?_ | refine F2 0 0 ?_ | refine F2 0 3 ?_ | refine F2 0 1 ?_ | fail); simp only [fS,fS2,fS2,qA,qC,qK,hdself,qYy])
    exact Sub.refl _
   ·simp [-qYj,-gD,wC,jI,qY,qK,hdself,hst]<;>(first | rfl | exact ⟨rfl,rfl⟩ | exact ⟨rfl,rfl,rfl⟩ | skip)
  have hst0:=vE (late:=late) hkk hstp hi hst (h9' _) (by rw [hmm,hcc,hin]; simp [-qWw]; omega)
  try simp only [go_sem,seval,hroom,hin,hcc,h7,hcg,gt,gt2,hdg,gd,hsg,hw1,qI k.regs s.r.toNat rr,qI k.regs s.b.toNat rb]
  have hac:=iT m i s c late hM.mem hi (by rw [hkk]; exact e4) (by rw [hkk]; exact e6) hc hx r0 (by omega) b0 (by omega)
  rw [hkk] at hac
  refine CAN [(0,0),(1,11)] (hac) ?_
  try simp only [go_sem,seval]
  repeat refine K ?_
  have hgo:=hgs late c hmm h12 h13 hcc hin
  generalize hacc:jK m.mem.cells k s c late=r at *
  have hcg2:=jZ .own (m.cores.set i r.2) i (by rw [qYb]; exact hi)
  rw [wF _ _ _ _ hi] at hcg2
  try simp only [go_sem,seval,hcg2,hcg,gt,gt2,hdg,gd,hsg,hw1,qI k.regs s.r.toNat rr,qI k.regs s.b.toNat rb]
  repeat refine K ?_
  by_cases hn:(cd.length:Int)≤k.at_+1
  ·rw [hst0,hgo,bP (m:=⟨m.codes,m.cores,⟨r.1⟩,m.tr⟩) (show ((m.codes.getD i []).length:Int)≤_ by rw [hcd]; exact hn)]
   simp only [go_sem,seval,hn,hcg2,hcg,gt,gt2,hdg,gd,hsg,hw1,qI k.regs s.r.toNat rr,qI k.regs s.b.toNat rb]
   repeat refine K ?_
   apply wS
   ·repeat' ((first | refine FB 11 1 ?_ | refine FB 12 0 ?_ | refine FB 13 0 ?_ | refine FB 14 0 ?_ | refine FB 15 0 ?_ | refine FB 16 0 ?_ | refine FB 17 0 ?_ | refine FB 18 0 ?_ | refine FB 19 0 ?_ | refine F2 0 0 ?_ | refine F2 0 3 ?_ | refine F2 0 1 ?_ | fail); simp only [fS,fS2,fS2,qA,qC,qK,hdself,qYy])
    exact Sub.refl _
   ·simp [-qYj,-gD,wC,jI,qY,qK,hdself,hst,qYy]<;>(first | rfl | exact ⟨rfl,rfl⟩ | exact ⟨rfl,rfl,rfl⟩ | skip)
  ·rw [hst0,hgo,uG (m:=⟨m.codes,m.cores,⟨r.1⟩,m.tr⟩) (show¬((m.codes.getD i []).length:Int)≤_ by rw [hcd]; exact hn)]
   simp only [go_sem,seval,hn,hcg2,hcg,gt,gt2,hdg,gd,hsg,hw1,qI k.regs s.r.toNat rr,qI k.regs s.b.toNat rb]
   repeat refine K ?_
   apply wS
   ·repeat' ((first | refine FB 11 1 ?_ | refine FB 12 0 ?_ | refine FB 13 0 ?_ | refine FB 14 0 ?_ | refine FB 15 0 ?_ | refine FB 16 0 ?_ | refine FB 17 0 ?_ | refine FB 18 0 ?_ | refine FB 19 0 ?_ | refine F2 0 0 ?_ | refine F2 0 3 ?_ | refine F2 0 1 ?_ | fail); simp only [fS,fS2,fS2,qA,qC,qK,hdself,qYy])
    exact Sub.refl _
   ·simp [-qYj,-gD,wC,jI,qY,qK,hdself,hst,qYy]<;>(first | rfl | exact ⟨rfl,rfl⟩ | exact ⟨rfl,rfl,rfl⟩ | skip)
 by_cases h8:s.op=8
 ·have hmm:jH s.op=true:=by simp [jH,h8]
  simp only [go_sem,seval,h8,hcg,gt,gt2,hdg,gd,hsg,hw1,qI k.regs s.r.toNat rr,qI k.regs s.b.toNat rb]
  refine CA [] (tR k s hca) ?_
  try simp only [go_sem,seval]
  cases hin:qO (wK k s) 0 23
  ·have hst0:=vE (late:=late) hkk hstp hi hst (h9' _) (by simp [hin])
   rw [hst0,hgf late hmm h12 h13 hin]
   try simp only [go_sem,seval,hin,h8,hcg,gt,gt2,hdg,gd,hsg,hw1,qI k.regs s.r.toNat rr,qI k.regs s.b.toNat rb]
   repeat refine K ?_
   apply wS
   ·repeat' ((first | refine FB 11 1 ?_ | refine FB 12 0 ?_ | refine F2 0 0 ?_ | refine F2 0 3 ?_ | refine F2 0 1 ?_ | fail); simp only [fS,fS2,fS2,qA,qC,qK,hdself,qYy])
    exact Sub.refl _
   ·simp [-qYj,-gD,wC,jI,qY,qK,hdself,hst]<;>(first | rfl | exact ⟨rfl,rfl⟩ | exact ⟨rfl,rfl,rfl⟩ | skip)
  have hin':=qP.1 hin
  obtain ⟨c,hcc⟩:=qYv hin'.1
  have hc:c<24:=by omega
  have hcl24:=hin0 c hc
  rw [hcc] at hin
  try simp only [go_sem,seval,hin,hcc,h8,hcg,gt,gt2,hdg,gd,hsg,hw1,qI k.regs s.r.toNat rr,qI k.regs s.b.toNat rb]
  apply uU
  ·refine FA 12 0 13 ?_
   simp only [fS,fS2,fS2,qA,qC,hdself]
   refine F1 0 0 12 ?_
   simp only [fS,fS2,fS2,qA,qC]
   exact Sub.refl _
  refine CAN [(0,0),(1,11)] (qAx m.codes m.cores.length m.mem.cells m.tr (cores .own m.cores) hR c hcl24) ?_
  try simp only [go_sem,seval]
  by_cases hroom:((m.mem.cells.getD c []).length:Int)<4000
  case neg =>
   have hov:=eN (late:=late) hkk hstp hi (.inr (by rw [hmm,hcc,hin]; simp [-qWw,h8]; omega))
   rw [hov]
   try simp only [go_sem,seval,hroom,hin,hcc,h8,hcg,gt,gt2,hdg,gd,hsg,hw1,qI k.regs s.r.toNat rr,qI k.regs s.b.toNat rb]
   apply wS
   ·repeat' ((first | refine FB 11 1 ?_ | refine FB 12 0 ?_ | refine F2 0 0 ?_ | refine F2 0 3 ?_ | refine F2 0 1 ?_ | fail); simp only [fS,fS2,fS2,qA,qC,qK,hdself,qYy])
    exact Sub.refl _
   ·simp [-qYj,-gD,wC,jI,qY,qK,hdself,hst]<;>(first | rfl | exact ⟨rfl,rfl⟩ | exact ⟨rfl,rfl,rfl⟩ | skip)
  have hst0:=vE (late:=late) hkk hstp hi hst (h9' _) (by rw [hmm,hcc,hin]; simp [-qWw]; omega)
  try simp only [go_sem,seval,hroom,hin,hcc,h8,hcg,gt,gt2,hdg,gd,hsg,hw1,qI k.regs s.r.toNat rr,qI k.regs s.b.toNat rb]
  have hac:=iT m i s c late hM.mem hi (by rw [hkk]; exact e4) (by rw [hkk]; exact e6) hc hx r0 (by omega) b0 (by omega)
  rw [hkk] at hac
  refine CAN [(0,0),(1,11)] (hac) ?_
  try simp only [go_sem,seval]
  repeat refine K ?_
  have hgo:=hgs late c hmm h12 h13 hcc hin
  generalize hacc:jK m.mem.cells k s c late=r at *
  have hcg2:=jZ .own (m.cores.set i r.2) i (by rw [qYb]; exact hi)
  rw [wF _ _ _ _ hi] at hcg2
  try simp only [go_sem,seval,hcg2,hcg,gt,gt2,hdg,gd,hsg,hw1,qI k.regs s.r.toNat rr,qI k.regs s.b.toNat rb]
  repeat refine K ?_
  by_cases hn:(cd.length:Int)≤k.at_+1
  ·rw [hst0,hgo,bP (m:=⟨m.codes,m.cores,⟨r.1⟩,m.tr⟩) (show ((m.codes.getD i []).length:Int)≤_ by rw [hcd]; exact hn)]
   simp only [go_sem,seval,hn,hcg2,hcg,gt,gt2,hdg,gd,hsg,hw1,qI k.regs s.r.toNat rr,qI k.regs s.b.toNat rb]
   repeat refine K ?_
   apply wS
   ·repeat' ((first | refine FB 11 1 ?_ | refine FB 12 0 ?_ | refine FB 13 0 ?_ | refine FB 14 0 ?_ | refine FB 15 0 ?_ | refine FB 16 0 ?_ | refine FB 17 0 ?_ | refine FB 18 0 ?_ | refine FB 19 0 ?_ | refine F2 0 0 ?_ | refine F2 0 3 ?_ | refine F2 0 1 ?_ | fail); simp only [fS,fS2,fS2,qA,qC,qK,hdself,qYy])
    exact Sub.refl _
   ·simp [-qYj,-gD,wC,jI,qY,qK,hdself,hst,qYy]<;>(first | rfl | exact ⟨rfl,rfl⟩ | exact ⟨rfl,rfl,rfl⟩ | skip)
  ·rw [hst0,hgo,uG (m:=⟨m.codes,m.cores,⟨r.1⟩,m.tr⟩) (show¬((m.codes.getD i []).length:Int)≤_ by rw [hcd]; exact hn)]
   simp only [go_sem,seval,hn,hcg2,hcg,gt,gt2,hdg,gd,hsg,hw1,qI k.regs s.r.toNat rr,qI k.regs s.b.toNat rb]
   repeat refine K ?_
   apply wS
   ·repeat' ((first | refine FB 11 1 ?_ | refine FB 12 0 ?_ | refine FB 13 0 ?_ | refine FB 14 0 ?_ | refine FB 15 0 ?_ | refine FB 16 0 ?_ | refine FB 17 0 ?_ | refine FB 18 0 ?_ | refine FB 19 0 ?_ | refine F2 0 0 ?_ | refine F2 0 3 ?_ | refine F2 0 1 ?_ | fail); simp only [fS,fS2,fS2,qA,qC,qK,hdself,qYy])
    exact Sub.refl _
   ·simp [-qYj,-gD,wC,jI,qY,qK,hdself,hst,qYy]<;>(first | rfl | exact ⟨rfl,rfl⟩ | exact ⟨rfl,rfl,rfl⟩ | skip)
 omega
end Go.Sep
