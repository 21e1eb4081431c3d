/- Contracts of functions. -/
import Derived.Test.YtebbppogicgpkaaOxx16
import Derived.Test.YtebbppogicgpkaaOxx19
namespace Go.Sep
set_option maxHeartbeats 16000000
open Go.Proofs
set_option linter.unusedSimpArgs false
set_option linter.unusedVariables false
set_option maxRecDepth 100000
open Nat renaming reduceAdd → qA, reduceMul → qB, reduceEqDiff → qC, reduceBEq → qD
open Int renaming reduceToNat → qE, reduceEq → qF, reduceLT → qG, reduceLE → qH
open List renaming getD_eq_getElem?_getD → gD
def m427:MFn:=⟨54,[.t 4],kr [xb 3 1,xo 4 (.mv (.c (.nil)))] (kr [xo 9 (.mkSl [xz] 0 []),xv 5 9] (.seq (kr [xI 10 0] (.blk 0 (.loop (kr [bI 11 .lss 10 4] (.seq (kX 11 0) (.seq (.blk 1 (kr [xv 12 0,xk 13 12,xa 14 1 13,xl 15 14,xe 16 15,xI 17 0] (.blk 2 (.loop (kr [bT 18 .lss 17 16] (.seq (kX 18 2) (.seq (.blk 3 (kr [xv 19 17,xv 6 19] (kr [xI 20 0] (.blk 4 (.loop (kr [bI 21 .lss 20 40] (.seq (kX 21 4) (.seq (.blk 5 (.seq (kr [xv 22 0,xk 23 22,xa 24 1 23,xl 25 24,xv 26 6,xD 27 4 25 26,xa 28 3 27,xl 29 28,bI 30 .neq 29 0,xv 31 30,xg 32 (.load 2 true (.t 3)) 31 false,zv 33 0 31,zv 34 6 31,xg 35 (.call 437 [false,false,false] [.t 32,.t 33,.t 34]) 31 false,xQ 36 31 35] (.cond 36 (.exit 4) (.skip))) (kr [xm 38 2 3,xv 39 0,xv 40 6,xo 41 (.build [xz,xz] [(0,1,.t 40)]),xo 42 (.call 428 [false,true,false] [.t 38,.t 39,.t 41]),xv 37 42,xX 43 37 0,xX 44 37 1,xv 7 43,xv 8 44] (kr [xv 45 8] (.cond 45 (xr [xv 46 5,xv 47 6,xo 48 (.mkSl [xz] 1 [(0,.t 47)]),xA 49 1 8 46 48,xv 5 49]) (.skip)))))) (xr [bI 50 .add 20 1,xv 20 50]))))))))) (xr [bI 51 .add 17 1,xv 17 51])))))))) (xr [bI 52 .add 10 1,xv 10 52]))))))) (kR [xv 53 5,xv 4 53])))⟩
def m428:MFn:=⟨57,[.t 6,.t 7],kr [xb 3 0,xb 5 2,xI 6 0,xF 7] (.seq (kr [xv 10 1,xa 11 0 5,xl 12 11,xc2 13 229 (.t 10) (.t 12),xN 14 13] (kF 14 [xI 6 2,xF 7])) (.seq (.dreg (.take 0 (xv 15 1) (.take 1 (xk 16 15) (.take 2 (xa 17 1 16) (.take 3 (xl 18 17) (.only 4 [] (xa 19 0 5) (.only 5 [] (xl 20 19) (.only 6 [3,2,1,0] (xD 21 4 18 20) (.only 7 [6,3,2,1,0] (xa 22 0 21) (.only 8 [7,6,3,2,1,0] (xl 23 22) (.only 9 [0,1,2,3] (xv 8 23) (.done)))))))))))) (kr [xv 24 1,xm 25 2 5,xo 26 (.call 359 [true,false] [.t 24,.t 25]),xv 9 26] (.seq (.dreg (.take 0 (xv 27 9) (.only 1 [] (xv 28 9) (.only 2 [] (bI 29 .eql 28 0) (.only 3 [] (xv 30 29) (.take 4 (xg 31 (.load 2 true (.t 3)) 30 true) (.take 5 (yv 32 1 30) (.take 6 (xg 33 (.nilck (.t 32)) 30 true) (.take 7 (ya 34 0 33 30) (.take 8 (yl 35 1 34 30) (.take 9 (ya 36 0 5 30) (.take 10 (yl 37 1 36 30) (.take 11 (xg 38 (.iad 1 (.t 35) (.t 37)) 30 true) (.take 12 (yl 39 1 38 30) (.take 13 (yv 40 8 30) (.take 14 (xg 41 (.iad 5 (.t 39) (.t 40)) 30 true) (.take 15 (xg 42 (.load 5 true (.t 41)) 30 true) (.take 16 (yv 43 1 30) (.take 17 (xg 44 (.nilck (.t 43)) 30 true) (.take 18 (ya 45 1 44 30) (.take 19 (yl 46 1 45 30) (.take 20 (ya 47 0 5 30) (.take 21 (yl 48 1 47 30) (.take 22 (xg 49 (.iad 4 (.t 46) (.t 48)) 30 true) (.take 23 (ya 50 1 49 30) (.take 24 (yl 51 1 50 30) (.take 25 (ya 52 0 5 30) (.take 26 (yl 53 1 52 30) (.only 27 [] (yv 54 8 30) (.only 28 [4,15,24,26,14,23,25,12,13,22,11,19,21,8,10,18,20,7,9,17,6,16,5] (xg 55 (.call 236 [false,false,false,false,false] [.t 31,.t 42,.t 51,.t 53,.t 54]) 30 true) (.take 29 (xP 56 30 55) (.only 30 [0,28,4,15,24,26,14,23,25,12,13,22,11,19,21,8,10,18,20,7,9,17,6,16,5] (xv 6 27) (.only 31 [0,4,5,6,7,8,9,10,11,12,13,14,15,16,17,18,19,20,21,22,23,24,25,26,29] (xv 7 56) (.done)))))))))))))))))))))))))))))))))) (.ret)))))⟩
def m437:MFn:=⟨39,[.t 6],kr [xb 3 0,xF 6] (.seq (kr [xv 9 1,xv 10 2,xc2 11 229 (.t 9) (.t 10),xN 12 11] (kF 12 [xF 6])) (.seq (.dreg (.take 0 (xm 14 2 3) (.take 1 (xv 15 2) (.take 2 (xv 16 1) (.take 3 (xk 17 16) (.take 4 (xa 18 1 17) (.take 5 (xl 19 18) (.only 6 [] (xv 20 2) (.only 7 [5,4,3,2] (xD 21 4 19 20) (.only 8 [7,5,4,3,2] (xa 22 0 21) (.only 9 [8,7,5,4,3,2] (xl 23 22) (.only 10 [0,1,9,8,7,5,4,3,2] (xc3 24 230 (.t 14) (.t 15) (.t 23)) (.only 11 [10,0,1,9,8,7,5,4,3,2] (xv 13 24) (.take 12 (xX 25 13 0) (.take 13 (xX 26 13 1) (.only 14 [0,1,2,3,4,5,12] (xv 7 25) (.only 15 [0,1,2,3,4,5,12,13] (xv 8 26) (.done)))))))))))))))))) (kR [xv 27 1,xk 28 27,xa 29 1 28,xl 30 29,xv 31 2,xD 32 4 30 31,xa 33 3 32,xl 34 33,bI 35 .eql 34 0,xv 36 35,yv 37 8 36,xP 38 36 37,xv 6 38])))⟩
def qBw (p:wN) (M:qK) (i:Nat):Bool:=decide ((qJ M i).st=0)&&!qD4 p M i
def rst (p:wN) (i:Nat):Nat→qK→qK
 | 0,M=>M
 | n+1,M=>if qBw p M i then rst p i n (wS M ⟨i,0⟩).1 else M
def nH (p:wN) (i:Nat):Nat→qK×List Int→qK×List Int
 | 0,q=>q
 | n+1,q=>if qBw p q.1 i then nH p i n ((wS q.1 ⟨i,0⟩).1,q.2++(if did p q.1 ⟨i,0⟩=true then [(i:Int)] else [])) else q
theorem qKc (p:wN) (i:Nat) :∀(n:Nat) (q:qK×List Int),(nH p i n q).1=rst p i n q.1
 | 0,_=>rfl
 | n+1,q=>by
  unfold nH rst
  split
  ·rw [qKc p i n]
  ·rfl
theorem qRk (p:wN) (i:Nat) :∀(n:Nat) {M:qK},wJ M=true→wJ (rst p i n M)=true∧(rst p i n M).cores.length=M.cores.length
 | 0,_,h=>⟨h,rfl⟩
 | n+1,M,h=>by
  unfold rst
  split
  ·have:=qRk p i n (zR ⟨i,0⟩ h)
   exact ⟨this.1,by rw [this.2,(pJ M ⟨i,0⟩).1]⟩
  ·exact ⟨h,rfl⟩
def qIs (p:wN) (l:List Nat) (q:qK×List Int):qK×List Int:=l.foldl (fun q i=>nH p i 40 q) q
def qIt (p:wN) (l:List Nat) (M:qK):qK:=l.foldl (fun M i=>rst p i 40 M) M
theorem qKe (p:wN) :∀(l:List Nat) (q:qK×List Int),(qIs p l q).1=qIt p l q.1
 | [],_=>rfl
 | i::l,q=>by
  unfold qIs qIt
  simp only [List.foldl_cons]
  have:=qKe p l (nH p i 40 q)
  unfold qIs qIt at this
  rw [this,qKc]
theorem qOi (p:wN) :∀(l:List Nat) {M:qK},wJ M=true→wJ (qIt p l M)=true∧(qIt p l M).cores.length=M.cores.length
 | [],_,h=>⟨h,rfl⟩
 | i::l,M,h=>by
  have h1:=qRk p i 40 h
  have h2:=qOi p l h1.1
  exact ⟨h2.1,by show (qIt p l (rst p i 40 M)).cores.length=_; rw [h2.2,h1.2]⟩
def sX (p:wN) (n:Nat):Nat→qK×List Int→qK×List Int
 | 0,q=>q
 | k+1,q=>sX p n k (qIs p (List.range n) q)
def sY (p:wN) (n:Nat):Nat→qK→qK
 | 0,M=>M
 | k+1,M=>sY p n k (qIt p (List.range n) M)
theorem qH4 (p:wN) (n:Nat) :∀(k:Nat) (q:qK×List Int),(sX p n k q).1=sY p n k q.1
 | 0,_=>rfl
 | k+1,q=>by
  unfold sX sY
  rw [qH4 p n k,qKe]
theorem qKg (p:wN) (n:Nat) :∀(k:Nat) {M:qK},wJ M=true→wJ (sY p n k M)=true∧(sY p n k M).cores.length=M.cores.length
 | 0,_,h=>⟨h,rfl⟩
 | k+1,M,h=>by
  have h1:=qOi p (List.range n) h
  have h2:=qKg p n k h1.1
  exact ⟨h2.1,by show (sY p n k (qIt p (List.range n) M)).cores.length=_; rw [h2.2,h1.2]⟩
theorem qDi {n j:Nat} (h:j<n):n-j=(n-(j+1))+1:=by omega
theorem qF2 {n i:Nat} (h:i<n):(List.range n).drop i=i::(List.range n).drop (i+1):=by
 rw [List.drop_eq_getElem_cons (by simpa using h)]
 simp
theorem qNu (p:wN) (m:qK) (i:Nat):qD4 p m i=(qL (i:Int) 0 (m.cores.length-1)&&decide ((qJ m i).st=0)&&(xJ p i (qJ m i).at_).2):=rfl
theorem qEy (p:wN) (m:qK) (i:Nat) (hp:xE p) (hl:m.cores.length<2^40) (hi:i<m.cores.length):wD Try.prog num 437 [.agg (vP .bw p),.fptr .bw (qS .bw m) 0,.int .i64 i] [] (.bool (qD4 p m i)):=by
 refine EN m437 Try.func28 ?_
 unfold m437
 have hw:qL (i:Int) 0 (m.cores.length-1)=true:=by rw [qM]; omega
 have hcg:=uI .bw m.cores i hi
 have hk:m.cores.getD i default=qJ m i:=rfl
 rw [hk] at hcg
 rw [qNu,hw,Bool.true_and]
 simp only [go_sem,seval]
 refine CA [] (qB5 m i hl) ?_
 try simp only [go_sem,seval]
 try simp only [go_sem,seval,hw,hcg]
 repeat refine K ?_
 refine DA [] (qEv p i (qJ m i).at_ hp) ?_
 try simp only [go_sem,seval]
 repeat refine K ?_
 try simp only [go_sem,seval,hcg]
 by_cases hst:(qJ m i).st=0
 ·try simp only [go_sem,seval,hst,hcg]
  refine fz ?_; simp [yB,qW,qZ,wG,-List.drop_one]
 ·try simp only [go_sem,seval,hst,hcg]
  refine fz ?_; simp [yB,qW,qZ,wG,-List.drop_one]
theorem lN (p:wN) (m:qK) (x:gI) (hp:xE p) (h:wJ m=true) (hx:qPq x):wD Try.prog num 428 [.agg (vP .bw p),.ptr 0 0 0,.agg (nC x)] [(0,some (4,[qS .own m]),some (4,[qS .own (wS m x).1]))] (.tup [.int .i64 (wS m x).2,.bool (did p m x)]):=by
 refine EH m428 Try.func10 ?_
 unfold m428
 have hM:=(yH m).1 h
 have hc0:=hM.cores
 have hn4:=hM.n4
 simp only [go_sem,seval]
 refine CA [] (qB5 m x.who (by omega)) ?_
 try simp only [go_sem,seval]
 cases hw:qL x.who 0 (m.cores.length-1)
 ·have hn:wS m x=(m,2):=qMr hw
  have hd:did p m x=false:=by unfold did; rw [hn]; rfl
  rw [hn,hd]
  try simp only [go_sem,seval,hw]
  apply jV (by simp)
  ·exact Sub.refl _
  ·simp [-List.drop_one,-gD,qS]<;>(first | rfl | exact ⟨rfl,rfl⟩ | exact ⟨rfl,rfl,rfl⟩ | skip)
 have hw':=qM.1 hw
 obtain ⟨j,hj⟩:=Int.eq_ofNat_of_zero_le hw'.1
 obtain ⟨who,late⟩:=x
 simp only at hj hw'
 subst hj
 have hjl:j<m.cores.length:=by omega
 have hcg:=uI .own m.cores j hjl
 have hk:m.cores.getD j default=qJ m j:=rfl
 rw [hk] at hcg
 try simp only [go_sem,seval,hw,hcg]
 repeat refine K ?_
 apply zV
 ·refine Sub.trans (Sub.fold1 0 1 12 rfl (by simp [-gD]<;>omega) rfl (by decide) (by decide) rfl) ?_
  simp only [fS,fS2,qA,qC]
  exact Sub.refl _
 refine CA [(0,0)] (qC5 m ⟨j,late⟩ h hx) ?_
 try simp only [go_sem,seval]
 have hMs:=zR ⟨j,late⟩ h
 have hlen:=pJ m ⟨j,late⟩
 have hdid:did p m ⟨j,late⟩=(decide ((wS m ⟨j,late⟩).2=0)&&aA p (qQ m j) (qJ (wS m ⟨j,late⟩).1 j).regs j (qJ m j).at_):=rfl
 rw [hdid]
 have hK:=hM.core j hjl
 have e1:=hK.at0
 have e2:=hK.at1
 have hcdj:j<m.codes.length:=by omega
 have hat:(qJ m j).at_.toNat<(m.codes.getD j []).length:=by omega
 have hsg:=mB (m.codes.getD j []) (qJ m j).at_.toNat hat
 have hss:(m.codes.getD j []).getD (qJ m j).at_.toNat default=qQ m j:=rfl
 rw [hss] at hsg
 generalize wS m ⟨j,late⟩=w at *
 obtain ⟨M,code⟩:=w
 simp only at hMs hlen⊢
 obtain ⟨hl1,hl2⟩:=hlen
 have hM2:=(yH M).1 hMs
 have hjl2:j<M.cores.length:=by omega
 have hcdj2:j<M.codes.length:=by rw [hl2]; exact hcdj
 have hcg2:=uI .own M.cores j hjl2
 have hk2:M.cores.getD j default=qJ M j:=rfl
 rw [hk2] at hcg2
 have hdg2:=iO .own M.codes j hcdj2
 rw [hl2] at hdg2
 have hr8:=(hM2.core j hjl2).regs
 by_cases hcd:code=0
 case neg =>
  have hd:decide (code=0)=false:=by simpa using hcd
  rw [hd,Bool.false_and]
  try simp only [go_sem,seval,hcd]
  apply jV (by simp)
  ·exact Sub.refl _
  ·simp [-List.drop_one,-gD,qS]<;>(first | rfl | exact ⟨rfl,rfl⟩ | exact ⟨rfl,rfl,rfl⟩ | skip)
 have hd:decide (code=0)=true:=by simpa using hcd
 rw [hd,Bool.true_and]
 subst hcd
 have hdself:(codes .own m.codes).set j [.sl .own 5 (yT (m.codes.getD j []))]=codes .own m.codes:=by rw [←hdg2,jQ _ _ _ (by rw [aJ]; exact hcdj)]
 have hcself:(cores .own M.cores).set j [.int .i64 (qJ M j).at_,.sl .own 1 (wT (qJ M j).regs),.sl .own 1 (wT (qJ M j).view),.int .i64 (qJ M j).st]=cores .own M.cores:=by rw [←hcg2,jQ _ _ _ (by rw [bE]; exact hjl2)]
 try simp only [go_sem,seval,hcg2,hdg2,hsg,hl2]
 repeat refine K ?_
 refine DA [] (qB9 p (qQ m j) (qJ M j).regs j (qJ m j).at_ hp (by omega) (by omega)) ?_
 try simp only [go_sem,seval]
 apply jV (by simp)
 ·repeat' ((first | refine FB 13 0 ?_ | refine FB 15 1 ?_ | refine F2 0 0 ?_ | refine F2 0 1 ?_ | fail); simp only [fS,fS2,fS2,qA,qC,hdself,hcself])
  exact Sub.refl _
 ·simp [-List.drop_one,-gD,qS,hl2]<;>(first | rfl | exact ⟨rfl,rfl⟩ | exact ⟨rfl,rfl,rfl⟩ | skip)
theorem qLc (p:wN) (m:qK) (hp:xE p) (h:wJ m=true):wD Try.prog num 427 [.ptr 0 0 0,.agg (vP .bw p)] [(0,some (4,[qS .own m]),some (4,[qS .own (sY p m.cores.length 4 m)]))] (.sl .own 1 (wT (sX p m.cores.length 4 (m,[])).2)):=by
 have hM:=(yH m).1 h
 have hc0:=hM.cores
 have hn4:=hM.n4
 have hfst:=qH4 p m.cores.length 4 (m,[])
 simp only at hfst
 rw [←hfst]
 refine EH m427 Try.func15 ?_
 unfold m427
 simp only [go_sem,seval]
 generalize hn:m.cores.length=n at *
 refine wL (ι:=Nat×qK×List Int) (fun q=>.mk [(0,.ptr 0 0 0),(3,.ptr 10 0 0),(5,.ns 11 0 q.2.2.length),(10,.int .i64 q.1)] [(0,4,[qS .own q.2.1]),(10,2,[vP .bw p]),(11,1,wT q.2.2)] 12) (fun q=>q.1≤4∧wJ q.2.1=true∧q.2.1.cores.length=n∧q.2.2.length≤160*q.1∧sX p n (4-q.1) q.2=sX p n 4 (m,[])) (fun q=>4-q.1) (0,m,[]) ⟨by simp,h,hn,by simp,rfl⟩ ?_ ?_
 ·refine Sub.shape [] id (by omega) ?_ ?_ ?_ ?_<;>simp [qP]
  all_goals simp [wT]
 ·rintro ⟨k,M,o⟩ ⟨hk,hMk,hlen,ho,he⟩
  simp only at hk hMk hlen ho he
  simp only [go_sem,seval]
  refine qT (fun hc=>?_) (fun hc=>?_)
  rotate_left
  case _ =>
   simp only [decide_eq_false_iff_not] at hc
   obtain rfl:k=4:=by omega
   have he':(M,o)=sX p n 4 (m,[]):=he
   rw [←he']
   simp only [go_sem,seval]
   apply wI
   ·exact Sub.refl _
   ·simp [-List.drop_one,-gD,qS]<;>(first | rfl | exact ⟨rfl,rfl⟩ | exact ⟨rfl,rfl,rfl⟩ | skip)
  simp only [decide_eq_true_eq] at hc
  have hk4:k<4:=by omega
  rw [qDi hk4] at he
  simp only [go_sem,seval,hlen]
  refine wL (ι:=Nat×qK×List Int) (fun q=>.mk [(0,.ptr 0 0 0),(3,.ptr 10 0 0),(5,.ns 11 0 q.2.2.length),(10,.int .i64 k),(16,.int .i64 n),(17,.int .i64 q.1)] [(0,4,[qS .own q.2.1]),(10,2,[vP .bw p]),(11,1,wT q.2.2)] 12) (fun q=>q.1≤n∧wJ q.2.1=true∧q.2.1.cores.length=n∧q.2.2.length≤160*k+40*q.1∧qIs p ((List.range n).drop q.1) q.2=qIs p (List.range n) (M,o)) (fun q=>n-q.1) (0,M,o) ⟨by simp,hMk,hlen,by simp only; omega,by simp⟩ ?_ ?_
  ·refine Sub.trans (Sub.fold1 0 1 12 rfl (by simp [-gD]<;>omega) rfl (by decide) (by decide) rfl) ?_
   simp only [fS,fS2,qA,qC]
   refine Sub.shape [] id (by omega) ?_ ?_ ?_ ?_<;>simp [qP]
   all_goals exact fun e=>absurd hlen e
  ·rintro ⟨i,M1,o1⟩ ⟨hi,hM1,hlen1,ho1,he1⟩
   simp only at hi hM1 hlen1 ho1 he1
   simp only [go_sem,seval]
   refine qT (fun hc1=>?_) (fun hc1=>?_)
   rotate_left
   case _ =>
    simp only [decide_eq_false_iff_not] at hc1
    obtain rfl:i=n:=by omega
    have he1':(M1,o1)=qIs p (List.range i) (M,o):=by
     rw [←he1,List.drop_eq_nil_of_le (by simp)]
     rfl
    simp only [go_sem,seval,wB (i:=k) (by omega)]
    refine wC (k+1,M1,o1) ?_ ⟨hk4,hM1,hlen1,by simp only; omega,by rw [←he]; simp only [sX]; rw [←he1']⟩ (by simp only; omega)
    refine Sub.shape [] id (by omega) ?_ ?_ ?_ ?_<;>simp [qP]
   simp only [decide_eq_true_eq] at hc1
   have hin:i<n:=by omega
   rw [qF2 hin] at he1
   simp only [go_sem,seval]
   refine wL (ι:=Nat×qK×List Int) (fun q=>.mk [(0,.ptr 0 0 0),(3,.ptr 10 0 0),(5,.ns 11 0 q.2.2.length),(6,.int .i64 i),(10,.int .i64 k),(16,.int .i64 n),(17,.int .i64 i),(20,.int .i64 q.1)] [(0,4,[qS .own q.2.1]),(10,2,[vP .bw p]),(11,1,wT q.2.2)] 12) (fun q=>q.1≤40∧wJ q.2.1=true∧q.2.1.cores.length=n∧q.2.2.length≤160*k+40*i+q.1∧nH p i (40-q.1) q.2=nH p i 40 (M1,o1)) (fun q=>40-q.1) (0,M1,o1) ⟨by simp,hM1,hlen1,by simp only; omega,rfl⟩ ?_ ?_
   ·refine Sub.shape [] id (by omega) ?_ ?_ ?_ ?_<;>simp [qP]
   ·rintro ⟨j,M2,o2⟩ ⟨hj,hM2,hlen2,ho2,he2⟩
    simp only at hj hM2 hlen2 ho2 he2
    have vX :∀q,q=nH p i 40 (M1,o1)→qIs p ((List.range n).drop (i+1)) q=qIs p (List.range n) (M,o):=fun q hq=>by
     rw [←he1,hq]
     rfl
    simp only [go_sem,seval]
    refine qT (fun hc2=>?_) (fun hc2=>?_)
    rotate_left
    case _ =>
     simp only [decide_eq_false_iff_not] at hc2
     obtain rfl:j=40:=by omega
     simp only [go_sem,seval,wB (i:=i) (by omega)]
     refine wC (i+1,M2,o2) ?_ ⟨hin,hM2,hlen2,by simp only; omega,vX _ he2⟩ (by simp only; omega)
     refine Sub.shape [] id (by omega) ?_ ?_ ?_ ?_<;>simp [qP]
    simp only [decide_eq_true_eq] at hc2
    have hj40:j<40:=by omega
    rw [qDi hj40] at he2
    have hil:i<M2.cores.length:=by omega
    have hcg:=uI .own M2.cores i hil
    have hkk:M2.cores.getD i default=qJ M2 i:=rfl
    rw [hkk] at hcg
    simp only [go_sem,seval,hcg]
    repeat refine K ?_
    by_cases hst:(qJ M2 i).st=0
    case neg =>
     have hgo:qBw p M2 i=false:=by simp [qBw,hst]
     have he3:(M2,o2)=nH p i 40 (M1,o1):=by
      rw [←he2]
      simp only [nH,hgo]
      rfl
     try simp only [go_sem,seval,hst,hcg,wB (i:=i) (by omega)]
     refine wC (i+1,M2,o2) ?_ ⟨hin,hM2,hlen2,by simp only; omega,vX _ he3⟩ (by simp only; omega)
     refine Sub.trans (Sub.fold1 0 1 12 rfl (by simp [-gD]<;>omega) rfl (by decide) (by decide) rfl) ?_
     simp only [fS,fS2,qA,qC]
     refine Sub.shape [] id (by omega) ?_ ?_ ?_ ?_<;>simp [qP]
    try simp only [go_sem,seval,hst,hcg]
    apply zV
    ·refine Sub.trans (Sub.fold1 0 1 12 rfl (by simp [-gD]<;>omega) rfl (by decide) (by decide) rfl) ?_
     simp only [fS,fS2,qA,qC]
     exact Sub.refl _
    refine CA [] (qEy p M2 i hp (by omega) hil) ?_
    try simp only [go_sem,seval]
    cases hb:qD4 p M2 i
    case true =>
     have hgo:qBw p M2 i=false:=by simp [qBw,hb]
     have he3:(M2,o2)=nH p i 40 (M1,o1):=by
      rw [←he2]
      simp only [nH,hgo]
      rfl
     try simp only [go_sem,seval,hb,wB (i:=i) (by omega)]
     refine wC (i+1,M2,o2) ?_ ⟨hin,hM2,hlen2,by simp only; omega,vX _ he3⟩ (by simp only; omega)
     refine Sub.shape [] id (by omega) ?_ ?_ ?_ ?_<;>simp [qP]
    have hgo:qBw p M2 i=true:=by simp [qBw,hb,hst]
    try simp only [go_sem,seval,hb]
    refine CA [(0,0)] (lN p M2 ⟨i,0⟩ hp hM2 (by unfold qPq; simp)) ?_
    try simp only [go_sem,seval]
    have hM3:=zR ⟨i,0⟩ hM2
    have hlen3:=(pJ M2 ⟨i,0⟩).1
    cases hd:did p M2 ⟨i,0⟩
    ·have he3:nH p i (40-(j+1)) ((wS M2 ⟨i,0⟩).1,o2)=nH p i 40 (M1,o1):=by
      rw [←he2]
      simp only [nH,hgo,hd]
      simp
     try simp only [go_sem,seval,hd,wB (i:=j) (by omega)]
     refine wC (j+1,(wS M2 ⟨i,0⟩).1,o2) ?_ ⟨hj40,hM3,by rw [hlen3]; exact hlen2,by simp only; omega,he3⟩ (by simp only; omega)
     refine Sub.shape [] id (by omega) ?_ ?_ ?_ ?_<;>simp [qP]
    ·have he3:nH p i (40-(j+1)) ((wS M2 ⟨i,0⟩).1,o2++[(i:Int)])=nH p i 40 (M1,o1):=by
      rw [←he2]
      simp only [nH,hgo,hd]
      simp
     try simp only [go_sem,seval,hd,wB (i:=j) (by omega)]
     repeat refine K ?_
     refine wC (j+1,(wS M2 ⟨i,0⟩).1,o2++[(i:Int)]) ?_ ⟨hj40,hM3,by rw [hlen3]; exact hlen2,by simp; omega,he3⟩ (by simp only; omega)
     refine Sub.shape [] (fun n=>if n=11 then 14 else n) (by omega) ?_ ?_ ?_ ?_<;>simp [qP]
     exact .inl (by simp [wT])
end Go.Sep
