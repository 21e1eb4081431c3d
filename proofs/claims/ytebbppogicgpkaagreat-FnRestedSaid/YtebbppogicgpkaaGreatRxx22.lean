/- Contracts of functions. -/
import Derived.Test.YtebbppogicgpkaaGreatRxx15
import Derived.Test.YtebbppogicgpkaaGreatRxx21
namespace Go.Sep
set_option maxHeartbeats 16000000
open Go.Proofs
set_option linter.unusedSimpArgs false
set_option linter.unusedVariables false
set_option maxRecDepth 100000
open Nat renaming reduceAdd → qA, reduceMul → qB, reduceEqDiff → qC, reduceBEq → qD
open Int renaming reduceToNat → qE, reduceEq → qF, reduceLT → qG, reduceLE → qH
open List renaming getD_eq_getElem?_getD → gD
def m425:MFn:=⟨43,[.cell 4 4 true],kr [xb 2 0,xb 3 1,xo 4 (.alloc [.nil,.nil,.nil,.nil])] (.seq (kr [xI 5 0] (.blk 0 (.loop (.seq (kr [xv 8 5,bI 9 .lss 8 4] (kX 9 0)) (.seq (.blk 1 (kr [xI 6 0] (.blk 2 (.loop (.seq (kr [xv 12 6,xa 13 1 3,xl 14 13,xe 15 14,bT 16 .lss 12 15] (kX 16 2)) (.seq (.blk 3 (kr [xI 7 0] (.blk 4 (.loop (.seq (kr [xv 19 7,bI 20 .lss 19 40,xv 21 20,ya 22 1 3 21,yl 23 1 22 21,yv 24 6 21,xg 25 (.iad 4 (.t 23) (.t 24)) 21 true,ya 26 3 25 21,yl 27 1 26 21,yI 28 .eql 27 0 21,xP 29 21 28,xv 30 29,xg 31 (.load 2 true (.t 2)) 30 true,xg 32 (.load 4 true (.t 3)) 30 true,yv 33 6 30,xg 34 (.call 225 [false,false,false] [.t 31,.t 32,.t 33]) 30 true,yN 35 34 30,xP 36 30 35] (kX 36 4)) (.seq (.blk 5 (xr [xm 39 4 3,xv 40 6,xo 41 (.call 364 [true,false,false] [.t 39,.t 40,xi 1]),xS 4 3 41])) (xr [xv 37 7,bI 38 .add 37 1,xv 7 38]))))))) (xr [xv 17 6,bI 18 .add 17 1,xv 6 18]))))))) (xr [xv 10 5,bI 11 .add 10 1,xv 5 11])))))) (kR [xm 42 4 3,xS 4 4 42]))⟩
def m427:MFn:=⟨54,[.t 4],kr [xb 3 1,xo 4 (.mv (.c (.nil)))] (kr [xo 9 (.mkSl [xz] 0 []),xv 5 9] (.seq (kr [xI 10 0] (.blk 0 (.loop (kr [bI 11 .lss 10 4] (.seq (kX 11 0) (.seq (.blk 1 (kr [xv 12 0,xk 13 12,xa 14 1 13,xl 15 14,xe 16 15,xI 17 0] (.blk 2 (.loop (kr [bT 18 .lss 17 16] (.seq (kX 18 2) (.seq (.blk 3 (kr [xv 19 17,xv 6 19] (kr [xI 20 0] (.blk 4 (.loop (kr [bI 21 .lss 20 40] (.seq (kX 21 4) (.seq (.blk 5 (.seq (kr [xv 22 0,xk 23 22,xa 24 1 23,xl 25 24,xv 26 6,xD 27 4 25 26,xa 28 3 27,xl 29 28,bI 30 .neq 29 0,xv 31 30,xg 32 (.load 2 true (.t 3)) 31 false,zv 33 0 31,zv 34 6 31,xg 35 (.call 437 [false,false,false] [.t 32,.t 33,.t 34]) 31 false,xQ 36 31 35] (.cond 36 (.exit 4) (.skip))) (kr [xm 38 2 3,xv 39 0,xv 40 6,xo 41 (.build [xz,xz] [(0,1,.t 40)]),xo 42 (.call 428 [false,true,false] [.t 38,.t 39,.t 41]),xv 37 42,xX 43 37 0,xX 44 37 1,xv 7 43,xv 8 44] (kr [xv 45 8] (.cond 45 (xr [xv 46 5,xv 47 6,xo 48 (.mkSl [xz] 1 [(0,.t 47)]),xA 49 1 8 46 48,xv 5 49]) (.skip)))))) (xr [bI 50 .add 20 1,xv 20 50]))))))))) (xr [bI 51 .add 17 1,xv 17 51])))))))) (xr [bI 52 .add 10 1,xv 10 52]))))))) (kR [xv 53 5,xv 4 53])))⟩
def m428:MFn:=⟨57,[.t 6,.t 7],kr [xb 3 0,xb 5 2,xI 6 0,xF 7] (.seq (kr [xv 10 1,xa 11 0 5,xl 12 11,xc2 13 229 (.t 10) (.t 12),xN 14 13] (kF 14 [xI 6 2,xF 7])) (.seq (.dreg (.take 0 (xv 15 1) (.take 1 (xk 16 15) (.take 2 (xa 17 1 16) (.take 3 (xl 18 17) (.only 4 [] (xa 19 0 5) (.only 5 [] (xl 20 19) (.only 6 [3,2,1,0] (xD 21 4 18 20) (.only 7 [6,3,2,1,0] (xa 22 0 21) (.only 8 [7,6,3,2,1,0] (xl 23 22) (.only 9 [0,1,2,3] (xv 8 23) (.done)))))))))))) (kr [xv 24 1,xm 25 2 5,xo 26 (.call 359 [true,false] [.t 24,.t 25]),xv 9 26] (.seq (.dreg (.take 0 (xv 27 9) (.only 1 [] (xv 28 9) (.only 2 [] (bI 29 .eql 28 0) (.only 3 [] (xv 30 29) (.take 4 (xg 31 (.load 2 true (.t 3)) 30 true) (.take 5 (yv 32 1 30) (.take 6 (xg 33 (.nilck (.t 32)) 30 true) (.take 7 (ya 34 0 33 30) (.take 8 (yl 35 1 34 30) (.take 9 (ya 36 0 5 30) (.take 10 (yl 37 1 36 30) (.take 11 (xg 38 (.iad 1 (.t 35) (.t 37)) 30 true) (.take 12 (yl 39 1 38 30) (.take 13 (yv 40 8 30) (.take 14 (xg 41 (.iad 5 (.t 39) (.t 40)) 30 true) (.take 15 (xg 42 (.load 5 true (.t 41)) 30 true) (.take 16 (yv 43 1 30) (.take 17 (xg 44 (.nilck (.t 43)) 30 true) (.take 18 (ya 45 1 44 30) (.take 19 (yl 46 1 45 30) (.take 20 (ya 47 0 5 30) (.take 21 (yl 48 1 47 30) (.take 22 (xg 49 (.iad 4 (.t 46) (.t 48)) 30 true) (.take 23 (ya 50 1 49 30) (.take 24 (yl 51 1 50 30) (.take 25 (ya 52 0 5 30) (.take 26 (yl 53 1 52 30) (.only 27 [] (yv 54 8 30) (.only 28 [4,15,24,26,14,23,25,12,13,22,11,19,21,8,10,18,20,7,9,17,6,16,5] (xg 55 (.call 236 [false,false,false,false,false] [.t 31,.t 42,.t 51,.t 53,.t 54]) 30 true) (.take 29 (xP 56 30 55) (.only 30 [0,28,4,15,24,26,14,23,25,12,13,22,11,19,21,8,10,18,20,7,9,17,6,16,5] (xv 6 27) (.only 31 [0,4,5,6,7,8,9,10,11,12,13,14,15,16,17,18,19,20,21,22,23,24,25,26,29] (xv 7 56) (.done)))))))))))))))))))))))))))))))))) (.ret)))))⟩
def m437:MFn:=⟨39,[.t 6],kr [xb 3 0,xF 6] (.seq (kr [xv 9 1,xv 10 2,xc2 11 229 (.t 9) (.t 10),xN 12 11] (kF 12 [xF 6])) (.seq (.dreg (.take 0 (xm 14 2 3) (.take 1 (xv 15 2) (.take 2 (xv 16 1) (.take 3 (xk 17 16) (.take 4 (xa 18 1 17) (.take 5 (xl 19 18) (.only 6 [] (xv 20 2) (.only 7 [5,4,3,2] (xD 21 4 19 20) (.only 8 [7,5,4,3,2] (xa 22 0 21) (.only 9 [8,7,5,4,3,2] (xl 23 22) (.only 10 [0,1,9,8,7,5,4,3,2] (xc3 24 230 (.t 14) (.t 15) (.t 23)) (.only 11 [10,0,1,9,8,7,5,4,3,2] (xv 13 24) (.take 12 (xX 25 13 0) (.take 13 (xX 26 13 1) (.only 14 [0,1,2,3,4,5,12] (xv 7 25) (.only 15 [0,1,2,3,4,5,12,13] (xv 8 26) (.done)))))))))))))))))) (kR [xv 27 1,xk 28 27,xa 29 1 28,xl 30 29,xv 31 2,xD 32 4 30 31,xa 33 3 32,xl 34 33,bI 35 .eql 34 0,xv 36 35,yv 37 8 36,xP 38 36 37,xv 6 38])))⟩
def kU (p:wV) (M:qK) (i:Nat):Bool:=decide ((qJ M i).st=0)&&!aF p M i
def rst (p:wV) (i:Nat):Nat→qK→qK
 | 0,M=>M
 | n+1,M=>if kU p M i then rst p i n (wL M ⟨i,0⟩).1 else M
def pA (p:wV) (i:Nat):Nat→qK×List Int→qK×List Int
 | 0,q=>q
 | n+1,q=>if kU p q.1 i then pA p i n ((wL q.1 ⟨i,0⟩).1,q.2++(if did p q.1 ⟨i,0⟩=true then [(i:Int)] else [])) else q
theorem qNi (p:wV) (i:Nat) :∀(n:Nat) (q:qK×List Int),(pA p i n q).1=rst p i n q.1
 | 0,_=>rfl
 | n+1,q=>by
  unfold pA rst
  split
  ·rw [qNi p i n]
  ·rfl
theorem qUz (p:wV) (i:Nat) :∀(n:Nat) {M:qK},qX M=true→qX (rst p i n M)=true∧(rst p i n M).cores.length=M.cores.length
 | 0,_,h=>⟨h,rfl⟩
 | n+1,M,h=>by
  unfold rst
  split
  ·have:=qUz p i n (dK ⟨i,0⟩ h)
   exact ⟨this.1,by rw [this.2,(cK M ⟨i,0⟩).1]⟩
  ·exact ⟨h,rfl⟩
def qLh (p:wV) (l:List Nat) (q:qK×List Int):qK×List Int:=l.foldl (fun q i=>pA p i 40 q) q
def tD (p:wV) (l:List Nat) (M:qK):qK:=l.foldl (fun M i=>rst p i 40 M) M
theorem qNk (p:wV) :∀(l:List Nat) (q:qK×List Int),(qLh p l q).1=tD p l q.1
 | [],_=>rfl
 | i::l,q=>by
  unfold qLh tD
  simp only [List.foldl_cons]
  have:=qNk p l (pA p i 40 q)
  unfold qLh tD at this
  rw [this,qNi]
theorem qRs (p:wV) :∀(l:List Nat) {M:qK},qX M=true→qX (tD p l M)=true∧(tD p l M).cores.length=M.cores.length
 | [],_,h=>⟨h,rfl⟩
 | i::l,M,h=>by
  have h1:=qUz p i 40 h
  have h2:=qRs p l h1.1
  exact ⟨h2.1,by show (tD p l (rst p i 40 M)).cores.length=_; rw [h2.2,h1.2]⟩
def qB2 (p:wV) (n:Nat):Nat→qK×List Int→qK×List Int
 | 0,q=>q
 | k+1,q=>qB2 p n k (qLh p (List.range n) q)
def fF (p:wV) (n:Nat):Nat→qK→qK
 | 0,M=>M
 | k+1,M=>fF p n k (tD p (List.range n) M)
theorem qJs (p:wV) (n:Nat) :∀(k:Nat) (q:qK×List Int),(qB2 p n k q).1=fF p n k q.1
 | 0,_=>rfl
 | k+1,q=>by
  unfold qB2 fF
  rw [qJs p n k,qNk]
theorem qB3 (p:wV) (n:Nat) :∀(k:Nat) {M:qK},qX M=true→qX (fF p n k M)=true∧(fF p n k M).cores.length=M.cores.length
 | 0,_,h=>⟨h,rfl⟩
 | k+1,M,h=>by
  have h1:=qRs p (List.range n) h
  have h2:=qB3 p n k h1.1
  exact ⟨h2.1,by show (fF p n k (tD p (List.range n) M)).cores.length=_; rw [h2.2,h1.2]⟩
theorem mX {n j:Nat} (h:j<n):n-j=(n-(j+1))+1:=by omega
theorem oK {n i:Nat} (h:i<n):(List.range n).drop i=i::(List.range n).drop (i+1):=by
 rw [List.drop_eq_getElem_cons (by simpa using h)]
 simp
theorem qR5 (p:wV) (m:qK) (i:Nat):aF p m i=(qO (i:Int) 0 (m.cores.length-1)&&decide ((qJ m i).st=0)&&(vL p i (qJ m i).at_).2):=rfl
theorem rK (p:wV) (m:qK) (i:Nat) (hp:zX p) (hl:m.cores.length<2^40) (hi:i<m.cores.length):qZ Tryz.prog num 437 [.agg (vC .bw p),.fptr .bw (qN .bw m) 0,.int .i64 i] [] (.bool (aF p m i)):=by
 refine EN m437 Tryz.func90 ?_
 unfold m437
 have hw:qO (i:Int) 0 (m.cores.length-1)=true:=by rw [qM]; omega
 have hcg:=yL .bw m.cores i hi
 have hk:m.cores.getD i default=qJ m i:=rfl
 rw [hk] at hcg
 rw [qR5,hw,Bool.true_and]
 simp only [go_sem,seval]
 refine CA [] (qD8 m i hl) ?_
 try simp only [go_sem,seval]
 try simp only [go_sem,seval,hw,hcg]
 repeat refine K ?_
 refine DA [] (qH8 p i (qJ m i).at_ hp) ?_
 try simp only [go_sem,seval]
 repeat refine K ?_
 try simp only [go_sem,seval,hcg]
 by_cases hst:(qJ m i).st=0
 ·try simp only [go_sem,seval,hst,hcg]
  refine fz ?_; simp [wJ,wA,wB,qY,-List.drop_one]
 ·try simp only [go_sem,seval,hst,hcg]
  refine fz ?_; simp [wJ,wA,wB,qY,-List.drop_one]
theorem qD9 (p:wV) (m:qK) (x:bB) (hp:zX p) (h:qX m=true) (hx:qNs x):qZ Tryz.prog num 428 [.agg (vC .bw p),.ptr 0 0 0,.agg (iU x)] [(0,some (4,[qN .own m]),some (4,[qN .own (wL m x).1]))] (.tup [.int .i64 (wL m x).2,.bool (did p m x)]):=by
 refine EH m428 Tryz.func67 ?_
 unfold m428
 have hM:=(wT m).1 h
 have hc0:=hM.cores
 have hn4:=hM.n4
 simp only [go_sem,seval]
 refine CA [] (qD8 m x.who (by omega)) ?_
 try simp only [go_sem,seval]
 cases hw:qO x.who 0 (m.cores.length-1)
 ·have hn:wL m x=(m,2):=qAa hw
  have hd:did p m x=false:=by unfold did; rw [hn]; rfl
  rw [hn,hd]
  try simp only [go_sem,seval,hw]
  apply wN (by simp)
  ·exact Sub.refl _
  ·simp [-List.drop_one,-gD,qN]<;>(first | rfl | exact ⟨rfl,rfl⟩ | exact ⟨rfl,rfl,rfl⟩ | skip)
 have hw':=qM.1 hw
 obtain ⟨j,hj⟩:=Int.eq_ofNat_of_zero_le hw'.1
 obtain ⟨who,late⟩:=x
 simp only at hj hw'
 subst hj
 have hjl:j<m.cores.length:=by omega
 have hcg:=yL .own m.cores j hjl
 have hk:m.cores.getD j default=qJ m j:=rfl
 rw [hk] at hcg
 try simp only [go_sem,seval,hw,hcg]
 repeat refine K ?_
 apply xM
 ·refine Sub.trans (Sub.fold1 0 1 12 rfl (by simp [-gD]<;>omega) rfl (by decide) (by decide) rfl) ?_
  simp only [fS,fS2,qA,qC]
  exact Sub.refl _
 refine CA [(0,0)] (qEe m ⟨j,late⟩ h hx) ?_
 try simp only [go_sem,seval]
 have hMs:=dK ⟨j,late⟩ h
 have hlen:=cK m ⟨j,late⟩
 have hdid:did p m ⟨j,late⟩=(decide ((wL m ⟨j,late⟩).2=0)&&dO p (qW m j) (qJ (wL m ⟨j,late⟩).1 j).regs j (qJ m j).at_):=rfl
 rw [hdid]
 have hK:=hM.core j hjl
 have e1:=hK.at0
 have e2:=hK.at1
 have hcdj:j<m.codes.length:=by omega
 have hat:(qJ m j).at_.toNat<(m.codes.getD j []).length:=by omega
 have hsg:=xZ (m.codes.getD j []) (qJ m j).at_.toNat hat
 have hss:(m.codes.getD j []).getD (qJ m j).at_.toNat default=qW m j:=rfl
 rw [hss] at hsg
 generalize wL m ⟨j,late⟩=w at *
 obtain ⟨M,code⟩:=w
 simp only at hMs hlen⊢
 obtain ⟨hl1,hl2⟩:=hlen
 have hM2:=(wT M).1 hMs
 have hjl2:j<M.cores.length:=by omega
 have hcdj2:j<M.codes.length:=by rw [hl2]; exact hcdj
 have hcg2:=yL .own M.cores j hjl2
 have hk2:M.cores.getD j default=qJ M j:=rfl
 rw [hk2] at hcg2
 have hdg2:=zV .own M.codes j hcdj2
 rw [hl2] at hdg2
 have hr8:=(hM2.core j hjl2).regs
 by_cases hcd:code=0
 case neg =>
  have hd:decide (code=0)=false:=by simpa using hcd
  rw [hd,Bool.false_and]
  try simp only [go_sem,seval,hcd]
  apply wN (by simp)
  ·exact Sub.refl _
  ·simp [-List.drop_one,-gD,qN]<;>(first | rfl | exact ⟨rfl,rfl⟩ | exact ⟨rfl,rfl,rfl⟩ | skip)
 have hd:decide (code=0)=true:=by simpa using hcd
 rw [hd,Bool.true_and]
 subst hcd
 have hdself:(codes .own m.codes).set j [.sl .own 5 (wQ (m.codes.getD j []))]=codes .own m.codes:=by rw [←hdg2,wI _ _ _ (by rw [uT]; exact hcdj)]
 have hcself:(cores .own M.cores).set j [.int .i64 (qJ M j).at_,.sl .own 1 (wK (qJ M j).regs),.sl .own 1 (wK (qJ M j).view),.int .i64 (qJ M j).st]=cores .own M.cores:=by rw [←hcg2,wI _ _ _ (by rw [yY]; exact hjl2)]
 try simp only [go_sem,seval,hcg2,hdg2,hsg,hl2]
 repeat refine K ?_
 refine DA [] (qDa p (qW m j) (qJ M j).regs j (qJ m j).at_ hp (by omega) (by omega)) ?_
 try simp only [go_sem,seval]
 apply wN (by simp)
 ·repeat' ((first | refine FB 13 0 ?_ | refine FB 15 1 ?_ | refine F2 0 0 ?_ | refine F2 0 1 ?_ | fail); simp only [fS,fS2,fS2,qA,qC,hdself,hcself])
  exact Sub.refl _
 ·simp [-List.drop_one,-gD,qN,hl2]<;>(first | rfl | exact ⟨rfl,rfl⟩ | exact ⟨rfl,rfl,rfl⟩ | skip)
theorem qEf (p:wV) (m:qK) (hp:zX p) (h:qX m=true):qZ Tryz.prog num 427 [.ptr 0 0 0,.agg (vC .bw p)] [(0,some (4,[qN .own m]),some (4,[qN .own (fF p m.cores.length 4 m)]))] (.sl .own 1 (wK (qB2 p m.cores.length 4 (m,[])).2)):=by
 have hM:=(wT m).1 h
 have hc0:=hM.cores
 have hn4:=hM.n4
 have hfst:=qJs p m.cores.length 4 (m,[])
 simp only at hfst
 rw [←hfst]
 refine EH m427 Tryz.func85 ?_
 unfold m427
 simp only [go_sem,seval]
 generalize hn:m.cores.length=n at *
 refine wC (ι:=Nat×qK×List Int) (fun q=>.mk [(0,.ptr 0 0 0),(3,.ptr 10 0 0),(5,.ns 11 0 q.2.2.length),(10,.int .i64 q.1)] [(0,4,[qN .own q.2.1]),(10,2,[vC .bw p]),(11,1,wK q.2.2)] 12) (fun q=>q.1≤4∧qX q.2.1=true∧q.2.1.cores.length=n∧q.2.2.length≤160*q.1∧qB2 p n (4-q.1) q.2=qB2 p n 4 (m,[])) (fun q=>4-q.1) (0,m,[]) ⟨by simp,h,hn,by simp,rfl⟩ ?_ ?_
 ·refine Sub.shape [] id (by omega) ?_ ?_ ?_ ?_<;>simp [qP]
  all_goals simp [wK]
 ·rintro ⟨k,M,o⟩ ⟨hk,hMk,hlen,ho,he⟩
  simp only at hk hMk hlen ho he
  simp only [go_sem,seval]
  refine qS (fun hc=>?_) (fun hc=>?_)
  rotate_left
  case _ =>
   simp only [decide_eq_false_iff_not] at hc
   obtain rfl:k=4:=by omega
   have he':(M,o)=qB2 p n 4 (m,[]):=he
   rw [←he']
   simp only [go_sem,seval]
   apply wD
   ·exact Sub.refl _
   ·simp [-List.drop_one,-gD,qN]<;>(first | rfl | exact ⟨rfl,rfl⟩ | exact ⟨rfl,rfl,rfl⟩ | skip)
  simp only [decide_eq_true_eq] at hc
  have hk4:k<4:=by omega
  rw [mX hk4] at he
  simp only [go_sem,seval,hlen]
  refine wC (ι:=Nat×qK×List Int) (fun q=>.mk [(0,.ptr 0 0 0),(3,.ptr 10 0 0),(5,.ns 11 0 q.2.2.length),(10,.int .i64 k),(16,.int .i64 n),(17,.int .i64 q.1)] [(0,4,[qN .own q.2.1]),(10,2,[vC .bw p]),(11,1,wK q.2.2)] 12) (fun q=>q.1≤n∧qX q.2.1=true∧q.2.1.cores.length=n∧q.2.2.length≤160*k+40*q.1∧qLh p ((List.range n).drop q.1) q.2=qLh p (List.range n) (M,o)) (fun q=>n-q.1) (0,M,o) ⟨by simp,hMk,hlen,by simp only; omega,by simp⟩ ?_ ?_
  ·refine Sub.trans (Sub.fold1 0 1 12 rfl (by simp [-gD]<;>omega) rfl (by decide) (by decide) rfl) ?_
   simp only [fS,fS2,qA,qC]
   refine Sub.shape [] id (by omega) ?_ ?_ ?_ ?_<;>simp [qP]
   all_goals exact fun e=>absurd hlen e
  ·rintro ⟨i,M1,o1⟩ ⟨hi,hM1,hlen1,ho1,he1⟩
   simp only at hi hM1 hlen1 ho1 he1
   simp only [go_sem,seval]
   refine qS (fun hc1=>?_) (fun hc1=>?_)
   rotate_left
   case _ =>
    simp only [decide_eq_false_iff_not] at hc1
    obtain rfl:i=n:=by omega
    have he1':(M1,o1)=qLh p (List.range i) (M,o):=by
     rw [←he1,List.drop_eq_nil_of_le (by simp)]
     rfl
    simp only [go_sem,seval,qR (i:=k) (by omega)]
    refine qT (k+1,M1,o1) ?_ ⟨hk4,hM1,hlen1,by simp only; omega,by rw [←he]; simp only [qB2]; rw [←he1']⟩ (by simp only; omega)
    refine Sub.shape [] id (by omega) ?_ ?_ ?_ ?_<;>simp [qP]
   simp only [decide_eq_true_eq] at hc1
   have hin:i<n:=by omega
   rw [oK hin] at he1
   simp only [go_sem,seval]
   refine wC (ι:=Nat×qK×List Int) (fun q=>.mk [(0,.ptr 0 0 0),(3,.ptr 10 0 0),(5,.ns 11 0 q.2.2.length),(6,.int .i64 i),(10,.int .i64 k),(16,.int .i64 n),(17,.int .i64 i),(20,.int .i64 q.1)] [(0,4,[qN .own q.2.1]),(10,2,[vC .bw p]),(11,1,wK q.2.2)] 12) (fun q=>q.1≤40∧qX q.2.1=true∧q.2.1.cores.length=n∧q.2.2.length≤160*k+40*i+q.1∧pA p i (40-q.1) q.2=pA p i 40 (M1,o1)) (fun q=>40-q.1) (0,M1,o1) ⟨by simp,hM1,hlen1,by simp only; omega,rfl⟩ ?_ ?_
   ·refine Sub.shape [] id (by omega) ?_ ?_ ?_ ?_<;>simp [qP]
   ·rintro ⟨j,M2,o2⟩ ⟨hj,hM2,hlen2,ho2,he2⟩
    simp only at hj hM2 hlen2 ho2 he2
    have uI :∀q,q=pA p i 40 (M1,o1)→qLh p ((List.range n).drop (i+1)) q=qLh p (List.range n) (M,o):=fun q hq=>by
     rw [←he1,hq]
     rfl
    simp only [go_sem,seval]
    refine qS (fun hc2=>?_) (fun hc2=>?_)
    rotate_left
    case _ =>
     simp only [decide_eq_false_iff_not] at hc2
     obtain rfl:j=40:=by omega
     simp only [go_sem,seval,qR (i:=i) (by omega)]
     refine qT (i+1,M2,o2) ?_ ⟨hin,hM2,hlen2,by simp only; omega,uI _ he2⟩ (by simp only; omega)
     refine Sub.shape [] id (by omega) ?_ ?_ ?_ ?_<;>simp [qP]
    simp only [decide_eq_true_eq] at hc2
    have hj40:j<40:=by omega
    rw [mX hj40] at he2
    have hil:i<M2.cores.length:=by omega
    have hcg:=yL .own M2.cores i hil
    have hkk:M2.cores.getD i default=qJ M2 i:=rfl
    rw [hkk] at hcg
    simp only [go_sem,seval,hcg]
    repeat refine K ?_
    by_cases hst:(qJ M2 i).st=0
    case neg =>
     have hgo:kU p M2 i=false:=by simp [kU,hst]
     have he3:(M2,o2)=pA p i 40 (M1,o1):=by
      rw [←he2]
      simp only [pA,hgo]
      rfl
     try simp only [go_sem,seval,hst,hcg,qR (i:=i) (by omega)]
     refine qT (i+1,M2,o2) ?_ ⟨hin,hM2,hlen2,by simp only; omega,uI _ he3⟩ (by simp only; omega)
     refine Sub.trans (Sub.fold1 0 1 12 rfl (by simp [-gD]<;>omega) rfl (by decide) (by decide) rfl) ?_
     simp only [fS,fS2,qA,qC]
     refine Sub.shape [] id (by omega) ?_ ?_ ?_ ?_<;>simp [qP]
    try simp only [go_sem,seval,hst,hcg]
    apply xM
    ·refine Sub.trans (Sub.fold1 0 1 12 rfl (by simp [-gD]<;>omega) rfl (by decide) (by decide) rfl) ?_
     simp only [fS,fS2,qA,qC]
     exact Sub.refl _
    refine CA [] (rK p M2 i hp (by omega) hil) ?_
    try simp only [go_sem,seval]
    cases hb:aF p M2 i
    case true =>
     have hgo:kU p M2 i=false:=by simp [kU,hb]
     have he3:(M2,o2)=pA p i 40 (M1,o1):=by
      rw [←he2]
      simp only [pA,hgo]
      rfl
     try simp only [go_sem,seval,hb,qR (i:=i) (by omega)]
     refine qT (i+1,M2,o2) ?_ ⟨hin,hM2,hlen2,by simp only; omega,uI _ he3⟩ (by simp only; omega)
     refine Sub.shape [] id (by omega) ?_ ?_ ?_ ?_<;>simp [qP]
    have hgo:kU p M2 i=true:=by simp [kU,hb,hst]
    try simp only [go_sem,seval,hb]
    refine CA [(0,0)] (qD9 p M2 ⟨i,0⟩ hp hM2 (by unfold qNs; simp)) ?_
    try simp only [go_sem,seval]
    have hM3:=dK ⟨i,0⟩ hM2
    have hlen3:=(cK M2 ⟨i,0⟩).1
    cases hd:did p M2 ⟨i,0⟩
    ·have he3:pA p i (40-(j+1)) ((wL M2 ⟨i,0⟩).1,o2)=pA p i 40 (M1,o1):=by
      rw [←he2]
      simp only [pA,hgo,hd]
      simp
     try simp only [go_sem,seval,hd,qR (i:=j) (by omega)]
     refine qT (j+1,(wL M2 ⟨i,0⟩).1,o2) ?_ ⟨hj40,hM3,by rw [hlen3]; exact hlen2,by simp only; omega,he3⟩ (by simp only; omega)
     refine Sub.shape [] id (by omega) ?_ ?_ ?_ ?_<;>simp [qP]
    ·have he3:pA p i (40-(j+1)) ((wL M2 ⟨i,0⟩).1,o2++[(i:Int)])=pA p i 40 (M1,o1):=by
      rw [←he2]
      simp only [pA,hgo,hd]
      simp
     try simp only [go_sem,seval,hd,qR (i:=j) (by omega)]
     repeat refine K ?_
     refine qT (j+1,(wL M2 ⟨i,0⟩).1,o2++[(i:Int)]) ?_ ⟨hj40,hM3,by rw [hlen3]; exact hlen2,by simp; omega,he3⟩ (by simp only; omega)
     refine Sub.shape [] (fun n=>if n=11 then 14 else n) (by omega) ?_ ?_ ?_ ?_<;>simp [qP]
     exact .inl (by simp [wK])
theorem qOa (m:qK) (who:Int):vA (vG 1) m who=(wL m ⟨who,0⟩).1:=by
 show vA 1 m who=_
 unfold vA
 split
 ·rfl
 ·rfl
theorem qH0 (p:wV) (m:qK) (hp:zX p) (h:qX m=true):qZ Tryz.prog num 425 [.agg (vC .bw p),iC m] (tF m) (.agg (qN .own (fF p m.cores.length 4 m))):=by
 have hM:=(wT m).1 h
 have hc0:=hM.cores
 have hn4:=hM.n4
 refine EH m425 Tryz.func100 (hh:=qBj m) ?_
 unfold m425
 simp only [go_sem,seval]
 generalize hn:m.cores.length=n at *
 refine wC (ι:=Nat×qK) (fun q=>.mk [(2,.ptr 10 0 0),(3,.ptr 11 0 0),(4,.ptr 12 0 0),(5,.int .i64 q.1)] [(10,2,[vC .bw p]),(11,4,[qN .own q.2]),(12,4,[[.nil,.nil,.nil,.nil]])] 13) (fun q=>q.1≤4∧qX q.2=true∧q.2.cores.length=n∧fF p n (4-q.1) q.2=fF p n 4 m) (fun q=>4-q.1) (0,m) ⟨by simp,h,hn,rfl⟩ ?_ ?_
 ·refine G1 11 0 0 ?_
  simp only [fS,fS2,fS2,qA,qC]
  refine G1 11 1 1 ?_
  simp only [fS,fS2,fS2,qA,qC]
  refine G1 11 2 2 ?_
  simp only [fS,fS2,fS2,qA,qC]
  refine G1 11 3 3 ?_
  simp only [fS,fS2,fS2,qA,qC]
  refine Sub.shape [] id (by omega) ?_ ?_ ?_ ?_<;>simp [qP]
  all_goals exact fun e=>absurd hn e
 ·rintro ⟨k,M⟩ ⟨hk,hMk,hlen,he⟩
  simp only at hk hMk hlen he
  simp only [go_sem,seval]
  refine qS (fun hc=>?_) (fun hc=>?_)
  rotate_left
  case _ =>
   simp only [decide_eq_false_iff_not] at hc
   obtain rfl:k=4:=by omega
   have he':M=fF p n 4 m:=he
   rw [←he']
   simp only [go_sem,seval]
   refine ⟨_,Sub.refl _,yJ ?_⟩; simp [-List.drop_one]
  simp only [decide_eq_true_eq] at hc
  have hk4:k<4:=by omega
  rw [mX hk4] at he
  simp only [go_sem,seval]
  refine wC (ι:=Nat×qK) (fun q=>.mk [(2,.ptr 10 0 0),(3,.ptr 11 0 0),(4,.ptr 12 0 0),(5,.int .i64 k),(6,.int .i64 q.1)] [(10,2,[vC .bw p]),(11,4,[qN .own q.2]),(12,4,[[.nil,.nil,.nil,.nil]])] 13) (fun q=>q.1≤n∧qX q.2=true∧q.2.cores.length=n∧tD p ((List.range n).drop q.1) q.2=tD p (List.range n) M) (fun q=>n-q.1) (0,M) ⟨by simp,hMk,hlen,by simp⟩ ?_ ?_
  ·refine Sub.shape [] id (by omega) ?_ ?_ ?_ ?_<;>simp [qP]
  ·rintro ⟨i,M1⟩ ⟨hi,hM1,hlen1,he1⟩
   simp only at hi hM1 hlen1 he1
   simp only [go_sem,seval,hlen1]
   refine qS (fun hc1=>?_) (fun hc1=>?_)
   rotate_left
   case _ =>
    simp only [decide_eq_false_iff_not] at hc1
    obtain rfl:i=n:=by omega
    have he1':M1=tD p (List.range i) M:=by
     rw [←he1,List.drop_eq_nil_of_le (by simp)]
     rfl
    simp only [go_sem,seval,qR (i:=k) (by omega)]
    refine qT (k+1,M1) ?_ ⟨hk4,hM1,hlen1,by rw [←he]; simp only [fF]; rw [←he1']⟩ (by simp only; omega)
    refine Sub.trans (Sub.fold1 11 1 13 rfl (by simp [-gD]<;>omega) rfl (by decide) (by decide) rfl) ?_
    simp only [fS,fS2,qA,qC]
    refine Sub.shape [] id (by omega) ?_ ?_ ?_ ?_<;>simp [qP]
    all_goals exact fun e=>absurd hlen1 e
   simp only [decide_eq_true_eq] at hc1
   have hin:i<n:=by omega
   rw [oK hin] at he1
   simp only [go_sem,seval]
   refine wC (ι:=Nat×qK) (fun q=>.mk [(2,.ptr 10 0 0),(3,.ptr 11 0 0),(4,.ptr 12 0 0),(5,.int .i64 k),(6,.int .i64 i),(7,.int .i64 q.1)] [(10,2,[vC .bw p]),(11,4,[qN .own q.2]),(12,4,[[.nil,.nil,.nil,.nil]])] 13) (fun q=>q.1≤40∧qX q.2=true∧q.2.cores.length=n∧rst p i (40-q.1) q.2=rst p i 40 M1) (fun q=>40-q.1) (0,M1) ⟨by simp,hM1,hlen1,rfl⟩ ?_ ?_
   ·refine Sub.trans (Sub.fold1 11 1 13 rfl (by simp [-gD]<;>omega) rfl (by decide) (by decide) rfl) ?_
    simp only [fS,fS2,qA,qC]
    refine Sub.shape [] id (by omega) ?_ ?_ ?_ ?_<;>simp [qP]
    all_goals exact fun e=>absurd hlen1 e
   ·rintro ⟨j,M2⟩ ⟨hj,hM2,hlen2,he2⟩
    simp only at hj hM2 hlen2 he2
    have uI :∀q,q=rst p i 40 M1→tD p ((List.range n).drop (i+1)) q=tD p (List.range n) M:=fun q hq=>by
     rw [←he1,hq]
     rfl
    by_cases hj40:j<40
    case neg =>
     have hn40 :¬(j:Int)<40:=by omega
     have he3:M2=rst p i 40 M1:=by
      rw [←he2]
      have:40-j=0:=by omega
      rw [this]
      rfl
     simp only [go_sem,seval,hn40,qR (i:=i) (by omega)]
     refine qT (i+1,M2) ?_ ⟨hin,hM2,hlen2,uI _ he3⟩ (by simp only; omega)
     refine Sub.shape [] id (by omega) ?_ ?_ ?_ ?_<;>simp [qP]
    have hj40i:(j:Int)<40:=by omega
    rw [mX hj40] at he2
    have hil:i<M2.cores.length:=by omega
    have hcg:=yL .own M2.cores i hil
    have hkk:M2.cores.getD i default=qJ M2 i:=rfl
    rw [hkk] at hcg
    by_cases hst:(qJ M2 i).st=0
    case neg =>
     have hgo:kU p M2 i=false:=by simp [kU,hst]
     have he3:M2=rst p i 40 M1:=by
      rw [←he2]
      simp only [rst,hgo]
      rfl
     simp only [go_sem,seval,hj40i,hcg,hst,qR (i:=i) (by omega)]
     repeat refine K ?_
     refine qT (i+1,M2) ?_ ⟨hin,hM2,hlen2,uI _ he3⟩ (by simp only; omega)
     refine Sub.trans (Sub.fold1 11 1 13 rfl (by simp [-gD]<;>omega) rfl (by decide) (by decide) rfl) ?_
     simp only [fS,fS2,qA,qC]
     refine Sub.shape [] id (by omega) ?_ ?_ ?_ ?_<;>simp [qP]
    simp only [go_sem,seval,hj40i,hcg,hst]
    repeat refine K ?_
    refine CA [] (qFx p M2 i hp (by omega)) ?_
    try simp only [go_sem,seval]
    cases hb:aF p M2 i
    case true =>
     have hgo:kU p M2 i=false:=by simp [kU,hb]
     have he3:M2=rst p i 40 M1:=by
      rw [←he2]
      simp only [rst,hgo]
      rfl
     try simp only [go_sem,seval,hb,qR (i:=i) (by omega)]
     refine qT (i+1,M2) ?_ ⟨hin,hM2,hlen2,uI _ he3⟩ (by simp only; omega)
     refine Sub.trans (Sub.fold1 11 0 14 rfl (by simp [-gD]<;>omega) rfl (by decide) (by decide) rfl) ?_
     simp only [fS,fS2,qA,qC]
     refine Sub.trans (Sub.fold1 11 1 13 rfl (by simp [-gD]<;>omega) rfl (by decide) (by decide) rfl) ?_
     simp only [fS,fS2,qA,qC]
     refine Sub.trans (Sub.fold1 11 2 15 rfl (by simp [-gD]<;>omega) rfl (by decide) (by decide) rfl) ?_
     simp only [fS,fS2,qA,qC]
     refine Sub.trans (Sub.fold1 11 3 16 rfl (by simp [-gD]<;>omega) rfl (by decide) (by decide) rfl) ?_
     simp only [fS,fS2,qA,qC]
     refine Sub.shape [] id (by omega) ?_ ?_ ?_ ?_<;>simp [qP]
    have hgo:kU p M2 i=true:=by simp [kU,hb,hst]
    try simp only [go_sem,seval,hb]
    have ha:=qEc M2 i 1 hM2 hil
    rw [qOa] at ha
    refine CA [(0,14),(1,13),(2,15),(3,16)] (ha) ?_
    try simp only [go_sem,seval]
    have hM3:=dK ⟨i,0⟩ hM2
    have hlen3:=(cK M2 ⟨i,0⟩).1
    have he3:rst p i (40-(j+1)) (wL M2 ⟨i,0⟩).1=rst p i 40 M1:=by
     rw [←he2]
     simp only [rst,hgo]
     simp
    try simp only [go_sem,seval,qR (i:=j) (by omega)]
    refine qT (j+1,(wL M2 ⟨i,0⟩).1) ?_ ⟨hj40,hM3,by rw [hlen3]; exact hlen2,he3⟩ (by simp only; omega)
    refine Sub.trans (Sub.fold1 11 0 17 rfl (by simp [-gD]<;>omega) rfl (by decide) (by decide) rfl) ?_
    simp only [fS,fS2,qA,qC]
    refine Sub.trans (Sub.fold1 11 1 18 rfl (by simp [-gD]<;>omega) rfl (by decide) (by decide) rfl) ?_
    simp only [fS,fS2,qA,qC]
    refine Sub.trans (Sub.fold1 11 2 19 rfl (by simp [-gD]<;>omega) rfl (by decide) (by decide) rfl) ?_
    simp only [fS,fS2,qA,qC]
    refine Sub.trans (Sub.fold1 11 3 20 rfl (by simp [-gD]<;>omega) rfl (by decide) (by decide) rfl) ?_
    simp only [fS,fS2,qA,qC]
    refine Sub.shape [] id (by omega) ?_ ?_ ?_ ?_<;>simp [qP]
end Go.Sep
