/- Contracts of functions. -/
import Derived.Test.YtfecojefbnnknaaGreatRxx28
import Derived.Test.YtfecojefbnnknaaGreatRxx29
namespace Go.Sep
set_option maxHeartbeats 16000000
open Go.Proofs
set_option linter.unusedSimpArgs false
set_option linter.unusedVariables false
set_option maxRecDepth 100000
open Nat renaming reduceAdd → qA, reduceMul → qB, reduceEqDiff → qC, reduceBEq → qD
open Int renaming reduceToNat → qE, reduceEq → qF, reduceLT → qG, reduceLE → qH
open List renaming getD_eq_getElem?_getD → gD
def m496:MFn:=⟨198,[.t 2],kr [xF 2] (.seq (kr [xv 20 0,xc1 21 19 (.t 20)] (kF 21 [xT 2])) (kr [xv 23 0,xo 24 (.call 168 [true] [.t 23]),xv 22 24,xX 25 22 0,xX 26 22 1,xo 3 (.alloc [.nil,.nil]),xS 2 3 25,xv 4 26] (kr [xm 27 2 3,xc1 28 169 (.t 27),xo 5 (.alloc [.nil,.nil]),xS 2 5 28] (kr [xv 29 0,xo 30 (.call 497 [true] [.t 29]),xv 31 0,xo 32 (.call 498 [true] [.t 31]),xv 6 30,xv 7 32] (kr [xv 33 0,xo 34 (.call 499 [true] [.t 33]),xv 35 0,xo 36 (.call 500 [true] [.t 35]),xo 8 (.alloc [.nil,.nil]),xo 9 (.alloc [.nil,.nil]),xS 2 8 34,xS 2 9 36] (.seq (.seq (.dreg (.take 0 (xv 37 6) (.take 2 (xv 39 6) (.only 1 [0] (xc1 38 270 (.t 37)) (.only 3 [1,2,0] (xc1 40 501 (.t 39)) (.only 4 [1,3,0,2] (xc2 41 23 (.t 38) (.t 40)) (.only 5 [4,1,3,0,2] (xN 42 41) (.only 6 [4,1,3,0,2] (xv 43 42) (.take 7 (zv 44 7 43) (.take 9 (zv 46 7 43) (.only 8 [6,7,4,1,3,0,2] (xg 45 (.call 214 [false] [.t 44]) 43 false) (.only 10 [6,8,9,4,7,1,3,0,2] (xg 47 (.call 502 [false] [.t 46]) 43 false) (.only 11 [6,8,10,4,7,9,1,3,0,2] (xg 48 (.call 481 [false,false] [.t 45,.t 47]) 43 false) (.only 12 [6,11,4,8,10,1,3,7,9,0,2] (zN 49 48 43) (.only 13 [6,12,4,11,1,3,8,10,0,2,7,9] (xQ 50 43 49) (.only 14 [11,6,8,10,4,7,9,1,3,0,2] (xv 51 50) (.take 15 (xg 52 (.load 2 true (.t 8)) 51 false) (.take 17 (xg 54 (.load 2 true (.t 8)) 51 false) (.only 16 [14,15,11,6,8,10,4,7,9,1,3,0,2] (xg 53 (.call 169 [false] [.t 52]) 51 false) (.only 18 [14,16,17,11,15,6,8,10,4,7,9,1,3,0,2] (xg 55 (.call 503 [false] [.t 54]) 51 false) (.only 19 [14,16,18,11,15,17,6,8,10,4,7,9,1,3,0,2] (xg 56 (.call 482 [false,false] [.t 53,.t 55]) 51 false) (.only 20 [14,19,11,16,18,6,8,10,15,17,4,7,9,1,3,0,2] (zN 57 56 51) (.only 21 [14,20,11,19,6,8,10,16,18,4,7,9,15,17,1,3,0,2] (xQ 58 51 57) (.only 22 [19,14,16,18,11,15,17,6,8,10,4,7,9,1,3,0,2] (xv 59 58) (.take 23 (xg 60 (.load 2 true (.t 9)) 59 false) (.take 25 (xg 62 (.load 2 true (.t 9)) 59 false) (.only 24 [22,23,19,14,16,18,11,15,17,6,8,10,4,7,9,1,3,0,2] (xg 61 (.call 504 [false] [.t 60]) 59 false) (.only 26 [22,24,25,19,23,14,16,18,11,15,17,6,8,10,4,7,9,1,3,0,2] (xg 63 (.call 505 [false] [.t 62]) 59 false) (.only 27 [22,24,26,19,23,25,14,16,18,11,15,17,6,8,10,4,7,9,1,3,0,2] (xg 64 (.bin .neq (.t 61) (.t 63)) 59 false) (.only 28 [22,27,19,24,26,14,16,18,23,25,11,15,17,6,8,10,4,7,9,1,3,0,2] (xQ 65 59 64) (.only 29 [26,22,24,25,19,23,14,16,18,11,15,17,6,8,10,4,7,9,1,3,0,2] (xv 66 65) (.only 30 [29,26,22,24,25,19,23,14,16,18,11,15,17,6,8,10,4,7,9,1,3,0,2] (xg 67 (.load 2 true (.t 5)) 66 false) (.only 31 [29,26,22,24,25,19,23,14,16,18,11,15,17,6,8,10,4,7,9,1,3,0,2] (xg 68 (.call 48 [false] [.t 67]) 66 false) (.only 32 [29,26,22,24,25,19,23,14,16,18,11,15,17,6,8,10,4,7,9,1,3,0,2] (zN 69 68 66) (.only 33 [29,26,22,24,25,19,23,14,16,18,11,15,17,6,8,10,4,7,9,1,3,0,2] (xQ 70 66 69) (.only 34 [31,29,26,22,24,25,19,23,14,16,18,11,15,17,6,8,10,4,7,9,1,3,0,2] (xv 71 70) (.take 35 (xg 72 (.load 2 true (.t 5)) 71 false) (.take 37 (xg 74 (.load 2 true (.t 3)) 71 false) (.only 36 [34,35,31,29,26,22,24,25,19,23,14,16,18,11,15,17,6,8,10,4,7,9,1,3,0,2] (xg 73 (.call 504 [false] [.t 72]) 71 false) (.only 38 [34,36,37,31,35,29,26,22,24,25,19,23,14,16,18,11,15,17,6,8,10,4,7,9,1,3,0,2] (xg 75 (.call 504 [false] [.t 74]) 71 false) (.only 39 [34,36,38,31,35,37,29,26,22,24,25,19,23,14,16,18,11,15,17,6,8,10,4,7,9,1,3,0,2] (xg 76 (.bin .gtr (.t 73) (.t 75)) 71 false) (.only 40 [34,39,31,36,38,29,35,37,26,22,24,25,19,23,14,16,18,11,15,17,6,8,10,4,7,9,1,3,0,2] (xQ 77 71 76) (.done))))))))))))))))))))))))))))))))))))))))))) (kF 77 [xF 2])) (kr [xm 79 2 3,xc1 80 24 (.t 79),xv 78 80,xX 81 78 0,xX 82 78 1,xo 10 (.alloc [.nil,.nil,.nil]),xS 3 10 81,xv 11 82] (kr [xm 84 2 5,xc1 85 24 (.t 84),xv 83 85,xX 86 83 0,xX 87 83 1,xo 12 (.alloc [.nil,.nil,.nil]),xS 3 12 86,xv 13 87] (kr [xm 89 2 3,xm 90 3 10,xv 91 4,xc3 92 25 (.t 89) (.t 90) (.t 91),xv 88 92,xX 93 88 0,xX 94 88 1,xo 14 (.alloc [.nil,.nil,.nil]),xS 3 14 93,xv 15 94] (kr [xm 96 2 5,xm 97 3 12,xv 98 4,xc3 99 25 (.t 96) (.t 97) (.t 98),xv 95 99,xX 100 95 0,xX 101 95 1,xo 16 (.alloc [.nil,.nil,.nil]),xS 3 16 100,xv 17 101] (.seq (kr [xv 102 13,xN 103 102,xv 104 103,zv 105 15 104,zv 106 17 104,xg 107 (.call 23 [false,false] [.t 105,.t 106]) 104 false,zN 108 107 104,xQ 109 104 108,xv 110 109,za 111 2 14 110,zl 112 1 111 110,za 113 2 16 110,zl 114 1 113 110,xg 115 (.call 160 [false,false] [.t 112,.t 114]) 110 false,zN 116 115 110,xQ 117 110 116,xv 118 117,za 119 1 14 118,zl 120 1 119 118,ze 121 120 118,za 122 1 16 118,zl 123 1 122 118,ze 124 123 118,xg 125 (.bin .neq (.t 121) (.t 124)) 118 false,xQ 126 118 125] (kF 126 [xF 2])) (.seq (kr [xI 18 0] (.blk 0 (.loop (.seq (kr [xv 127 18,xa 128 1 14,xl 129 128,xe 130 129,bT 131 .lss 127 130] (kX 131 0)) (.seq (.blk 1 (.seq (.dreg (.take 0 (xa 134 1 14) (.take 1 (xl 135 134) (.take 2 (xv 136 18) (.take 3 (xD 137 3 135 136) (.take 4 (xa 138 1 137) (.take 5 (xl 139 138) (.take 6 (xa 140 1 16) (.take 7 (xl 141 140) (.only 8 [] (xv 142 18) (.only 9 [7,6] (xD 143 3 141 142) (.only 10 [9,7,6] (xa 144 1 143) (.only 11 [10,9,7,6] (xl 145 144) (.only 12 [5,11,4,10,3,9,1,2,7,0,6] (xc2 146 23 (.t 139) (.t 145)) (.only 13 [12,5,11,4,10,3,9,1,2,7,0,6] (xN 147 146) (.only 14 [12,5,11,4,10,3,9,1,2,7,0,6] (xv 148 147) (.take 15 (za 149 1 14 148) (.take 16 (zl 150 1 149 148) (.take 17 (zv 151 18 148) (.take 18 (xg 152 (.iad 3 (.t 150) (.t 151)) 148 false) (.take 19 (za 153 2 152 148) (.take 20 (zl 154 1 153 148) (.take 21 (za 155 1 16 148) (.take 22 (zl 156 1 155 148) (.only 23 [14,12,5,11,4,10,3,9,1,2,7,0,6] (zv 157 18 148) (.only 24 [14,22,12,21,5,11,4,10,3,9,1,2,7,0,6] (xg 158 (.iad 3 (.t 156) (.t 157)) 148 false) (.only 25 [14,24,12,22,5,11,21,4,10,3,9,1,2,7,0,6] (za 159 2 158 148) (.only 26 [14,25,12,24,5,11,22,4,10,21,3,9,1,2,7,0,6] (zl 160 1 159 148) (.only 27 [14,20,26,12,19,25,5,11,18,24,4,10,16,17,22,3,9,15,21,1,2,7,0,6] (xg 161 (.eqB true (.t 154) (.t 160)) 148 false) (.only 28 [14,27,12,20,26,5,11,19,25,4,10,18,24,3,9,16,17,22,1,2,7,15,21,0,6] (xQ 162 148 161) (.done))))))))))))))))))))))))))))))) (kF 162 [xF 2]))) (xr [xv 132 18,bI 133 .add 132 1,xv 18 133])))))) (.seq (kr [xI 19 0] (.blk 2 (.loop (.seq (kr [xv 163 19,xa 164 0 14,xl 165 164,xe 166 165,bT 167 .lss 163 166] (kX 167 2)) (.seq (.blk 3 (.seq (.dreg (.take 0 (xa 170 0 14) (.take 1 (xl 171 170) (.take 2 (xv 172 19) (.take 3 (xD 173 3 171 172) (.take 4 (xa 174 0 173) (.take 5 (xl 175 174) (.take 6 (xa 176 0 16) (.take 7 (xl 177 176) (.only 8 [] (xv 178 19) (.only 9 [7,6] (xD 179 3 177 178) (.only 10 [9,7,6] (xa 180 0 179) (.only 11 [10,9,7,6] (xl 181 180) (.only 12 [5,11,4,10,3,9,1,2,7,0,6] (bT 182 .neq 175 181) (.only 13 [12,5,11,4,10,3,9,1,2,7,0,6] (xv 183 182) (.take 14 (za 184 0 14 183) (.take 15 (zl 185 1 184 183) (.take 16 (zv 186 19 183) (.take 17 (xg 187 (.iad 3 (.t 185) (.t 186)) 183 false) (.take 18 (za 188 2 187 183) (.take 19 (zl 189 1 188 183) (.take 20 (za 190 0 16 183) (.take 21 (zl 191 1 190 183) (.only 22 [13,12,5,11,4,10,3,9,1,2,7,0,6] (zv 192 19 183) (.only 23 [13,21,12,20,5,11,4,10,3,9,1,2,7,0,6] (xg 193 (.iad 3 (.t 191) (.t 192)) 183 false) (.only 24 [13,23,12,21,5,11,20,4,10,3,9,1,2,7,0,6] (za 194 2 193 183) (.only 25 [13,24,12,23,5,11,21,4,10,20,3,9,1,2,7,0,6] (zl 195 1 194 183) (.only 26 [13,19,25,12,18,24,5,11,17,23,4,10,15,16,21,3,9,14,20,1,2,7,0,6] (xg 196 (.bin .neq (.t 189) (.t 195)) 183 false) (.only 27 [13,26,12,19,25,5,11,18,24,4,10,17,23,3,9,15,16,21,1,2,7,14,20,0,6] (xQ 197 183 196) (.done)))))))))))))))))))))))))))))) (kF 197 [xF 2]))) (xr [xv 168 19,bI 169 .add 168 1,xv 19 169])))))) (kR [xT 2]))))))))))))))⟩
theorem qIi (l:List Ins) :∀i,i≤l.length→lV (vP l) i≤lV l i
 | 0,_=>by simp [lV]
 | i+1,h=>by
  have ih:=qIi l i (by omega)
  have h1:=pQ l (show i<l.length by omega)
  have h2:=pQ (vP l) (show i<(vP l).length by rw [bR]; omega)
  rw [h1,h2]
  by_cases hb:wF l 3=true
  ·rw [qEo hb (by omega)]
   unfold qMb
   split
   ·simp only [if_true]
    omega
   ·omega
  ·have e:vP l=l:=by unfold vP; rw [if_neg hb]
   rw [e]
   exact Nat.le_refl _
theorem qIh (bs:List (List Ins)) :∀i,i≤bs.length→nH (bs.map vP) i≤nH bs i
 | 0,_=>by simp [nH]
 | i+1,h=>by
  have ih:=qIh bs i (by omega)
  have h1:=kU bs (show i<bs.length by omega)
  have h2:=kU (bs.map vP) (show i<(bs.map vP).length by rw [List.length_map]; omega)
  have e:(bs.map vP).getD i []=vP (bs.getD i []):=by simp [List.getD_eq_getElem?_getD,show i<bs.length by omega]
  rw [h1,h2,e,bR]
  have:=qIi (bs.getD i []) (bs.getD i []).length (Nat.le_refl _)
  omega
theorem qHm {p:wQ} (h:yR p=true):eW (wX p)≤eW p:=by
 unfold eW
 rw [eV h]
 simp only [List.length_map]
 exact qIh _ _ (Nat.le_refl _)
theorem qSu {p:wQ} (h:yR p=true) {l:List Int} (hl:l.length≤4000):LvI p (wX p) (bH p (yJ p).1 l).1 (bH (wX p) (yJ (wX p)).1 l).1∧(bH (wX p) (yJ (wX p)).1 l).2=(bH p (yJ p).1 l).2:=by
 have hs:=dC h
 have ht:=dC (iC h)
 have h4:decide ((l.length:Int)≤4000)=true:=decide_eq_true (by omega)
 unfold bH qY9
 rw [hs,ht,h4]
 simp only [Bool.and_self,if_true]
 rw [qKx,qKx]
 exact qV9 h l
theorem qT9 {p:wQ} {s:wA} (picks:List Int) (h:wG p s=true):(bH p s picks).2.length≤picks.length:=by
 unfold bH
 split
 ·have:=sL h picks picks.length (Nat.le_refl _)
  rw [List.take_length] at this
  unfold qY9
  omega
 ·simp
theorem nN {p:wQ} {n m:Nat} (h1:p.bods.length≤n) (h2 :∀b∈p.bods,b.length≤m):(wX p).bods.length≤n∧∀b∈(wX p).bods,b.length≤m:=by
 by_cases h:yR p=true
 ·rw [eV h]
  refine ⟨by simpa using h1,fun b hb=>?_⟩
  simp only [List.mem_map] at hb
  obtain ⟨c,hc,rfl⟩:=hb
  rw [bR]
  exact h2 c hc
 ·have e:wX p=p:=by simp [wX,h]
  rw [e]
  exact ⟨h1,h2⟩
theorem qHd (p:wQ):(wX p).caps=p.caps:=by
 unfold wX
 split<;>rfl
theorem qYg {p:wQ} (h:yR p=true):p.bods.length≤1000∧∀b∈p.bods,b.length≤1000:=by
 simp only [yR,Bool.and_eq_true,decide_eq_true_eq,qL] at h
 obtain ⟨⟨⟨hb,h1⟩,_⟩,h2⟩:=h
 refine ⟨by omega,fun b hb'=>?_⟩
 have:=List.all_eq_true.1 hb b hb'
 simp only [wF,Bool.and_eq_true,qL] at this
 omega
theorem qZ5 (code:List Int):qY Tryz.prog num 496 [.sl .fz 1 (bys code)] [] (.bool true):=by
 refine EN m496 Tryz.func3 ?_
 unfold m496
 simp only [go_sem,seval]
 repeat refine K ?_
 refine CA [] (wAg code) ?_
 try simp only [go_sem,seval]
 repeat refine K ?_
 by_cases hbig:(1048576:Int)<code.length
 ·try simp only [go_sem,seval,hbig]
  repeat refine K ?_
  refine fz ?_; simp [yQ,wJ,wK,wR,-List.drop_one]
 have hb:code.length<2^62:=by omega
 try simp only [go_sem,seval,hbig]
 repeat refine K ?_
 refine CA [] (qG5 code hb) ?_
 try simp only [go_sem,seval]
 repeat refine K ?_
 obtain ⟨hp,hol,hox⟩:=qTg code
 have hsz:(fL code).1.bods.length≤1000∧∀b∈(fL code).1.bods,b.length≤1000:=qYg hp
 generalize fL code=w at *
 obtain ⟨p,order⟩:=w
 simp only at hp hol hox hsz⊢
 have hpp:=qIg hp
 have hq:=iC hp
 have hqq:=qIg hq
 obtain ⟨hI,hcd⟩:=qSu hp (l:=order) (by omega)
 have ctp:=rS p hpp
 have sp0:=dC hp
 have sq0:=dC hq
 have csp:=lG p hpp.caps hpp.bods hpp.body'
 have csq:=lG (wX p) hqq.caps hqq.bods hqq.body'
 have nq:(yJ (wX p)).2=true:=by simp [yJ,hq]
 have crp:=lF p (yJ p).1 order hpp (tZ sp0) (by omega)
 have crq:=lF (wX p) (yJ (wX p)).1 order hqq (tZ sq0) (by omega)
 have hdl:=qT9 order sp0
 have hsq:=nN hsz.1 hsz.2
 have z1:=kJ p hsz.1 hsz.2
 have z2:=kJ (wX p) hsq.1 hsq.2
 have zle:=qHm hp
 have cpo:=eN (wX p) (by have:=hqq.caps; omega) (by have:=hqq.bods; omega) hqq.body'
 rw [hq] at cpo
 rw [nq] at csq
 generalize eW (wX p)=zq at *
 generalize eW p=zp at *
 generalize wX p=q at *
 generalize bH p (yJ p).1 order=U at *
 generalize bH q (yJ q).1 order=V at *
 generalize yJ p=N at *
 obtain ⟨s,b1⟩:=N
 generalize (yJ q).1=t at *
 obtain ⟨u,c1⟩:=U
 obtain ⟨v,c2⟩:=V
 simp only at crp crq csp hI hcd hdl
 subst hcd
 have hus:=(jE p u).1 hI.ok
 have hvs:=(jE q v).1 hI.okq
 have hdsz:=qOa code (cJ code)
 have hbl:=qGr code (cJ code)
 have dd:=qHv code hb
 have dt:=qDw code hb
 have dp:=qDv code hb
 have dz:=qHu code hb
 generalize iQ code (cJ code)=L at *
 obtain ⟨L,e⟩:=L
 generalize sB code (cJ code)=P2 at *
 obtain ⟨P2,e2⟩:=P2
 simp only at hbl dd dt dp dz hdsz
 have hP2:aW P2:=⟨by have:=hdsz.1; omega,by have:=hdsz.2.1; omega,fun b hb=>by have:=hdsz.2.2 b hb; omega⟩
 have kd1:=rY L (by omega)
 have kd2:=rU L (by omega)
 have kt1:=nE L (by omega)
 have kt2:=nA L (by omega)
 have kp1:=rS P2 hP2
 have kp2:=qDq P2 hP2
 have kz1:=kJ P2 (by have:=hdsz.2.1; omega) (fun b hb=>by have:=hdsz.2.2 b hb; omega)
 have kz2:=qHe P2 (by have:=hdsz.2.1; omega) (fun b hb=>by have:=hdsz.2.2 b hb; omega)
 have hdL:(dH L).length≤L.length:=by
  unfold dH
  split
  ·exact lI L _
  ·simp
 have htL:=bR L
 have htP:=nN hdsz.2.1 hdsz.2.2
 have htc:=qHd P2
 have ks1:=iE (dH L) (dH L) (by omega)
 rw [decide_eq_true rfl] at ks1
 have ks2:=qF1 (vP L) (by omega)
 have ks3:=qMt (wX P2) ⟨by rw [htc]; have:=hdsz.1; omega,by have:=htP.1; omega,fun b hb=>by have:=htP.2 b hb; omega⟩
 generalize dH L=D at *
 generalize vP L=TB at *
 generalize wX P2=TP at *
 generalize eW P2=z3 at *
 have hsm2:=tZ hI.ok
 have hsl2:=hsm2.ths
 have hsc2:=hsm2.chs
 have csi:=iE c2 c2 (by omega)
 rw [decide_eq_true rfl] at csi
 have csn:=qKv u.tr v.tr (by have:=hsm2.tr; omega)
 rw [decide_eq_true hI.tr.symm] at csn
 have hzz:decide ((zp:Int)<(zq:Int))=false:=decide_eq_false (by omega)
 try simp only [go_sem,seval]
 repeat refine K ?_
 refine CA [] (ctp) ?_
 try simp only [go_sem,seval]
 repeat refine K ?_
 try simp only [go_sem,seval]
 repeat refine K ?_
 refine CA [] (dd) ?_
 try simp only [go_sem,seval]
 repeat refine K ?_
 try simp only [go_sem,seval]
 repeat refine K ?_
 refine CA [] (dt) ?_
 try simp only [go_sem,seval]
 repeat refine K ?_
 try simp only [go_sem,seval]
 repeat refine K ?_
 refine CA [] (dp) ?_
 try simp only [go_sem,seval]
 repeat refine K ?_
 try simp only [go_sem,seval]
 repeat refine K ?_
 refine CA [] (dz) ?_
 try simp only [go_sem,seval]
 repeat refine K ?_
 try simp only [go_sem,seval]
 repeat refine K ?_
 refine DA [] (kd1) ?_
 try simp only [go_sem,seval]
 repeat refine K ?_
 try simp only [go_sem,seval]
 repeat refine K ?_
 refine DA [] (kd2) ?_
 try simp only [go_sem,seval]
 repeat refine K ?_
 try simp only [go_sem,seval]
 repeat refine K ?_
 refine DA [] (ks1) ?_
 try simp only [go_sem,seval]
 repeat refine K ?_
 try simp only [go_sem,seval]
 repeat refine K ?_
 refine DA [] (kt1) ?_
 try simp only [go_sem,seval]
 repeat refine K ?_
 try simp only [go_sem,seval]
 repeat refine K ?_
 refine DA [] (kt2) ?_
 try simp only [go_sem,seval]
 repeat refine K ?_
 try simp only [go_sem,seval]
 repeat refine K ?_
 refine DA [] (ks2) ?_
 try simp only [go_sem,seval]
 repeat refine K ?_
 try simp only [go_sem,seval]
 repeat refine K ?_
 refine DA [] (kp1) ?_
 try simp only [go_sem,seval]
 repeat refine K ?_
 try simp only [go_sem,seval]
 repeat refine K ?_
 refine DA [] (kp2) ?_
 try simp only [go_sem,seval]
 repeat refine K ?_
 try simp only [go_sem,seval]
 repeat refine K ?_
 refine DA [] (ks3) ?_
 try simp only [go_sem,seval]
 repeat refine K ?_
 try simp only [go_sem,seval]
 repeat refine K ?_
 refine DA [] (kz1) ?_
 try simp only [go_sem,seval]
 repeat refine K ?_
 try simp only [go_sem,seval]
 repeat refine K ?_
 refine DA [] (kz2) ?_
 try simp only [go_sem,seval]
 repeat refine K ?_
 try simp only [go_sem,seval]
 repeat refine K ?_
 refine DA [] (cpo) ?_
 try simp only [go_sem,seval]
 repeat refine K ?_
 try simp only [go_sem,seval]
 repeat refine K ?_
 refine DA [] (z2) ?_
 try simp only [go_sem,seval]
 repeat refine K ?_
 try simp only [go_sem,seval]
 repeat refine K ?_
 refine DA [] (z1) ?_
 try simp only [go_sem,seval]
 repeat refine K ?_
 try simp only [go_sem,seval,hzz]
 repeat refine K ?_
 refine CA [] (csp) ?_
 try simp only [go_sem,seval]
 repeat refine K ?_
 try simp only [go_sem,seval]
 repeat refine K ?_
 refine CA [] (csq) ?_
 try simp only [go_sem,seval]
 repeat refine K ?_
 try simp only [go_sem,seval]
 repeat refine K ?_
 refine CA [] (crp) ?_
 try simp only [go_sem,seval]
 repeat refine K ?_
 try simp only [go_sem,seval]
 repeat refine K ?_
 refine CA [] (crq) ?_
 try simp only [go_sem,seval]
 repeat refine K ?_
 try simp only [go_sem,seval]
 repeat refine K ?_
 refine CA [] (csi) ?_
 try simp only [go_sem,seval]
 repeat refine K ?_
 try simp only [go_sem,seval]
 repeat refine K ?_
 refine CA [] (csn) ?_
 try simp only [go_sem,seval]
 repeat refine K ?_
 try simp only [go_sem,seval,hI.chs]
 repeat refine K ?_
 have hlen:=hI.len
 refine qZ (ι:=Nat) (fun i=>.mk [(14,.ptr 45 0 0),(16,.ptr 50 0 0),(18,.int .i64 i)] [(45,3,[uD .own u]),(50,3,[[.sl .own 3 (yH .own v.ths),.sl .own 3 (wH .own u.chs),.sl .own 2 (yY v.tr)]])] 51) (fun i=>i≤u.chs.length) (fun i=>u.chs.length-i) 0 (by simp) ?_ ?_
 ·refine Sub.trans (Sub.fold1 45 0 41 rfl (by simp [-gD]<;>omega) rfl (by decide) (by decide) rfl) ?_
  simp only [fS,fS3,qA,qC]
  refine Sub.trans (Sub.fold1 45 1 42 rfl (by simp [-gD]<;>omega) rfl (by decide) (by decide) rfl) ?_
  simp only [fS,fS3,qA,qC]
  refine Sub.trans (Sub.fold1 45 2 43 rfl (by simp [-gD]<;>omega) rfl (by decide) (by decide) rfl) ?_
  simp only [fS,fS3,qA,qC]
  refine Sub.trans (Sub.fold1 50 0 46 rfl (by simp [-gD]<;>omega) rfl (by decide) (by decide) rfl) ?_
  simp only [fS,fS3,qA,qC]
  refine Sub.trans (Sub.fold1 50 1 47 rfl (by simp [-gD]<;>omega) rfl (by decide) (by decide) rfl) ?_
  simp only [fS,fS3,qA,qC]
  refine Sub.trans (Sub.fold1 50 2 48 rfl (by simp [-gD]<;>omega) rfl (by decide) (by decide) rfl) ?_
  simp only [fS,fS3,qA,qC]
  refine Sub.shape [] id (by omega) ?_ ?_ ?_ ?_<;>simp [qK]
 ·intro i hi
  simp only [go_sem,seval]
  refine qP (fun hc=>?_) (fun hc=>?_)
  ·simp only [decide_eq_true_eq] at hc
   have hil:i<u.chs.length:=by omega
   have gc:=bM .own u.chs i hil
   have gcs :∀r,((wH .own u.chs).set i r).getD i []=r:=fun r=>jR _ _ _ _ (by rw [xB]; omega)
   have hcC:(wH .own u.chs).set i [.int .i64 (u.chs.getD i default).cap,.sl .own 1 (wE (u.chs.getD i default).list),.bool (u.chs.getD i default).closed]=wH .own u.chs:=by rw [←gc]; exact jP _ _ _ (by rw [xB]; exact hil)
   have cl:=iE (u.chs.getD i default).list (u.chs.getD i default).list (by have:=hsm2.list _ (yB u.chs i default hil); omega)
   rw [decide_eq_true rfl] at cl
   generalize u.chs.getD i default=c at *
   obtain ⟨cc,cli,ccl⟩:=c
   simp only at gc hcC cl
   simp only [go_sem,seval,gc,gcs,hil]
   repeat refine K ?_
   refine DA [] (cl) ?_
   try simp only [go_sem,seval]
   repeat refine K ?_
   cases ccl
   all_goals
    try simp only [go_sem,seval,gc,gcs,hil,qN (i:=i) (by omega)]
    repeat refine K ?_
    try simp only [go_sem,seval,gc,gcs,hil,qN (i:=i) (by omega)]
    repeat refine K ?_
    refine qM (i+1) ?_ ?_ ?_
    ·refine Sub.trans (Sub.foldAt 51 1 52 rfl (by simp [-gD]<;>omega) rfl (by decide) (by decide) rfl (by simp<;>omega)) ?_
     simp only [fS,fS3,qA,qC,hcC]
     refine Sub.trans (Sub.foldAt 53 1 54 rfl (by simp [-gD]<;>omega) rfl (by decide) (by decide) rfl (by simp<;>omega)) ?_
     simp only [fS,fS3,qA,qC,hcC]
     refine Sub.trans (Sub.fold1 45 1 51 rfl (by simp [-gD]<;>omega) rfl (by decide) (by decide) rfl) ?_
     simp only [fS,fS3,qA,qC]
     refine Sub.trans (Sub.fold1 50 1 53 rfl (by simp [-gD]<;>omega) rfl (by decide) (by decide) rfl) ?_
     simp only [fS,fS3,qA,qC]
     refine Sub.shape [] id (by omega) ?_ ?_ ?_ ?_<;>simp [qK]
    ·exact hil
    ·omega
  ·simp only [go_sem,seval]
   repeat refine K ?_
   refine qZ (ι:=Nat) (fun i=>.mk [(14,.ptr 45 0 0),(16,.ptr 50 0 0),(19,.int .i64 i)] [(45,3,[uD .own u]),(50,3,[[.sl .own 3 (yH .own v.ths),.sl .own 3 (wH .own u.chs),.sl .own 2 (yY v.tr)]])] 51) (fun i=>i≤u.ths.length) (fun i=>u.ths.length-i) 0 (by simp) ?_ ?_
   ·refine Sub.trans (Sub.fold1 45 1 51 rfl (by simp [-gD]<;>omega) rfl (by decide) (by decide) rfl) ?_
    simp only [fS,fS3,qA,qC]
    refine Sub.shape [] id (by omega) ?_ ?_ ?_ ?_<;>simp [qK]
   ·intro i hi
    simp only [go_sem,seval]
    refine qP (fun hc=>?_) (fun hc=>?_)
    ·simp only [decide_eq_true_eq] at hc
     have hil:i<u.ths.length:=by omega
     have hiv:i<v.ths.length:=by omega
     obtain ⟨e1,e2,-⟩:=hI.th i hil
     unfold thd at e1 e2
     have gtu:=qV .own u.ths i hil
     have gtv:=qV .own v.ths i hiv
     rw [e1,e2] at gtv
     simp only [go_sem,seval,gtu,gtv,hil,hiv,qN (i:=i) (by omega)]
     repeat refine K ?_
     refine qM (i+1) ?_ ?_ ?_
     ·refine Sub.trans (Sub.fold1 45 0 51 rfl (by simp [-gD]<;>omega) rfl (by decide) (by decide) rfl) ?_
      simp only [fS,fS3,qA,qC]
      refine Sub.trans (Sub.fold1 50 0 52 rfl (by simp [-gD]<;>omega) rfl (by decide) (by decide) rfl) ?_
      simp only [fS,fS3,qA,qC]
      refine Sub.shape [] id (by omega) ?_ ?_ ?_ ?_<;>simp [qK]
     ·exact hil
     ·omega
    ·simp only [go_sem,seval]
     repeat refine K ?_
     refine fz ?_; simp [yQ,wJ,wK,wR,-List.drop_one]
end Go.Sep
