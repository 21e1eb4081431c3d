/- Contracts of functions. -/
import Derived.Test.YtebbppogicgpkaaGreatSxx11
namespace Go.Sep
set_option maxHeartbeats 16000000
open Go.Proofs
set_option linter.unusedSimpArgs false
set_option linter.unusedVariables false
set_option maxRecDepth 100000
open List renaming getD_eq_getElem?_getD → gD
open Nat renaming reduceAdd → qA, reduceMul → qB, reduceEqDiff → qC, reduceBEq → qD
open Int renaming reduceToNat → qE, reduceEq → qF, reduceLT → qG, reduceLE → qH
def m346:MFn:=⟨21,[],kr [xI 6 0] (.blk 0 (.loop (.seq (kr [xv 7 6,xv 8 2,bT 9 .lss 7 8,xv 10 9,yv 11 6 10,yI 12 .lss 11 4000 10,xP 13 10 12] (kX 13 0)) (.seq (.blk 1 (kr [xv 16 0,xv 17 1,xo 18 (.build [xz,xz] [(0,1,.t 17)]),xo 19 (.call 359 [true,false] [.t 16,.t 18]),bI 20 .neq 19 0] (.cond 20 (.ret) (.skip)))) (xr [xv 14 6,bI 15 .add 14 1,xv 6 15])))))⟩
def aT (yH:Int):Nat:=(min yH 4000).toNat
theorem qOt {n i:Nat} (h:i<n) (m:qO) (who:Int) (hc:(wZ m ⟨who,0⟩).2=0):gT (n-i) m who=gT (n-(i+1)) (wZ m ⟨who,0⟩).1 who:=by
 obtain ⟨j,rfl⟩:=Nat.exists_eq_add_of_lt h
 have e1:i+j+1-i=j+1:=by omega
 have e2:i+j+1-(i+1)=j:=by omega
 rw [e1,e2]
 conv=>lhs; unfold gT
 rw [if_pos hc]
theorem qOs {n i:Nat} (h:i<n) (m:qO) (who:Int) (hc:(wZ m ⟨who,0⟩).2≠0):gT (n-i) m who=m:=by
 obtain ⟨j,rfl⟩:=Nat.exists_eq_add_of_lt h
 have e1:i+j+1-i=j+1:=by omega
 rw [e1]
 unfold gT
 rw [if_neg hc]
 exact qJb hc
theorem qJx (m:qO) (who yH:Int) (h:wP m=true):qW Tryz.prog num 346 [.ptr 0 0 0,.int .i64 who,.int .i64 yH] [(0,some (4,[qR .own m]),some (4,[qR .own (gT (aT yH) m who)]))] (.tup []):=by
 refine EH m346 Tryz.func86 ?_
 unfold m346
 simp only [go_sem,seval]
 refine qX (ι:=Nat×qO) (fun q=>.mk [(0,.ptr 0 0 0),(1,.int .i64 who),(2,.int .i64 yH),(6,.int .i64 q.1)] [(0,4,[qR .own q.2])] 10) (fun q=>q.1≤aT yH∧wP q.2=true∧gT (aT yH-q.1) q.2 who=gT (aT yH) m who) (fun q=>aT yH-q.1) (0,m) ⟨by simp,h,rfl⟩ ?_ ?_
 ·refine Sub.shape [] id (by omega) ?_ ?_ ?_ ?_<;>simp [qK]
 ·rintro ⟨i,M⟩ ⟨hi,hM,he⟩
  simp only at hi hM he
  have hb:i≤4000:=by unfold aT at hi; omega
  by_cases hlt:i<aT yH
  case neg =>
   have hfin:M=gT (aT yH) m who:=by
    rw [←he]
    have:aT yH-i=0:=by omega
    rw [this]
    rfl
   rw [←hfin]
   by_cases h1:(i:Int)<yH
   ·have h2 :¬(i:Int)<4000:=by unfold aT at hlt; omega
    simp only [go_sem,seval,h1,h2]
    rw [qHy]
    apply wS (by decide)
    ·exact Sub.refl _
    ·simp [-List.drop_one,-gD,qR]<;>(first | rfl | exact ⟨rfl,rfl⟩ | exact ⟨rfl,rfl,rfl⟩ | skip)
   ·simp only [go_sem,seval,h1]
    rw [qHy]
    apply wS (by decide)
    ·exact Sub.refl _
    ·simp [-List.drop_one,-gD,qR]<;>(first | rfl | exact ⟨rfl,rfl⟩ | exact ⟨rfl,rfl,rfl⟩ | skip)
  have h1:(i:Int)<yH:=by unfold aT at hlt; omega
  have h2:(i:Int)<4000:=by unfold aT at hlt; omega
  simp only [go_sem,seval,h1,h2]
  refine CA [(0,0)] (qGq M ⟨who,0⟩ hM (by simp)) ?_
  try simp only [go_sem,seval]
  by_cases hc:(wZ M ⟨who,0⟩).2=0
  ·try simp only [go_sem,seval,hc,qS (i:=i) (by omega)]
   refine qT (i+1,(wZ M ⟨who,0⟩).1) ?_ ⟨hlt,aA _ hM,by rw [←qOt hlt M who hc]; exact he⟩ (by simp only; omega)
   refine Sub.shape [] id (by omega) ?_ ?_ ?_ ?_<;>simp [qK]
  ·try simp only [go_sem,seval,hc]
   have hfin:gT (aT yH) m who=(wZ M ⟨who,0⟩).1:=by
    rw [←he,qOs hlt M who hc,qJb hc]
   rw [hfin]
   apply wS (by decide)
   ·exact Sub.refl _
   ·simp [-List.drop_one,-gD,qR]<;>(first | rfl | exact ⟨rfl,rfl⟩ | exact ⟨rfl,rfl,rfl⟩ | skip)
def m427:MFn:=⟨54,[.t 4],kr [xb 3 1,xo 4 (.mv (.c (.nil)))] (kr [xo 9 (.mkSl [xz] 0 []),xv 5 9] (.seq (kr [xI 10 0] (.blk 0 (.loop (kr [bI 11 .lss 10 4] (.seq (kX 11 0) (.seq (.blk 1 (kr [xv 12 0,xk 13 12,xa 14 1 13,xl 15 14,xe 16 15,xI 17 0] (.blk 2 (.loop (kr [bT 18 .lss 17 16] (.seq (kX 18 2) (.seq (.blk 3 (kr [xv 19 17,xv 6 19] (kr [xI 20 0] (.blk 4 (.loop (kr [bI 21 .lss 20 40] (.seq (kX 21 4) (.seq (.blk 5 (.seq (kr [xv 22 0,xk 23 22,xa 24 1 23,xl 25 24,xv 26 6,xD 27 4 25 26,xa 28 3 27,xl 29 28,bI 30 .neq 29 0,xv 31 30,xg 32 (.load 2 true (.t 3)) 31 false,zv 33 0 31,zv 34 6 31,xg 35 (.call 437 [false,false,false] [.t 32,.t 33,.t 34]) 31 false,xQ 36 31 35] (.cond 36 (.exit 4) (.skip))) (kr [xm 38 2 3,xv 39 0,xv 40 6,xo 41 (.build [xz,xz] [(0,1,.t 40)]),xo 42 (.call 428 [false,true,false] [.t 38,.t 39,.t 41]),xv 37 42,xX 43 37 0,xX 44 37 1,xv 7 43,xv 8 44] (kr [xv 45 8] (.cond 45 (xr [xv 46 5,xv 47 6,xo 48 (.mkSl [xz] 1 [(0,.t 47)]),xA 49 1 8 46 48,xv 5 49]) (.skip)))))) (xr [bI 50 .add 20 1,xv 20 50]))))))))) (xr [bI 51 .add 17 1,xv 17 51])))))))) (xr [bI 52 .add 10 1,xv 10 52]))))))) (kR [xv 53 5,xv 4 53])))⟩
def m437:MFn:=⟨39,[.t 6],kr [xb 3 0,xF 6] (.seq (kr [xv 9 1,xv 10 2,xc2 11 229 (.t 9) (.t 10),xN 12 11] (kF 12 [xF 6])) (.seq (.dreg (.take 0 (xm 14 2 3) (.take 1 (xv 15 2) (.take 2 (xv 16 1) (.take 3 (xk 17 16) (.take 4 (xa 18 1 17) (.take 5 (xl 19 18) (.only 6 [] (xv 20 2) (.only 7 [5,4,3,2] (xD 21 4 19 20) (.only 8 [7,5,4,3,2] (xa 22 0 21) (.only 9 [8,7,5,4,3,2] (xl 23 22) (.only 10 [0,1,9,8,7,5,4,3,2] (xc3 24 230 (.t 14) (.t 15) (.t 23)) (.only 11 [10,0,1,9,8,7,5,4,3,2] (xv 13 24) (.take 12 (xX 25 13 0) (.take 13 (xX 26 13 1) (.only 14 [0,1,2,3,4,5,12] (xv 7 25) (.only 15 [0,1,2,3,4,5,12,13] (xv 8 26) (.done)))))))))))))))))) (kR [xv 27 1,xk 28 27,xa 29 1 28,xl 30 29,xv 31 2,xD 32 4 30 31,xa 33 3 32,xl 34 33,bI 35 .eql 34 0,xv 36 35,yv 37 8 36,xP 38 36 37,xv 6 38])))⟩
def tG (p:wM) (i:Nat):Nat→qO×List Int→qO×List Int
 | 0,q=>q
 | n+1,q=>if qGg p q.1 i then tG p i n ((wZ q.1 ⟨i,0⟩).1,q.2++(if did p q.1 ⟨i,0⟩=true then [(i:Int)] else [])) else q
theorem qQ8 (p:wM) (i:Nat) :∀(n:Nat) (q:qO×List Int),(tG p i n q).1=rst p i n q.1
 | 0,_=>rfl
 | n+1,q=>by
  unfold tG rst
  split
  ·rw [qQ8 p i n]
  ·rfl
theorem qYb (p:wM) (i:Nat) :∀(n:Nat) {M:qO},wP M=true→wP (rst p i n M)=true∧(rst p i n M).cores.length=M.cores.length
 | 0,_,h=>⟨h,rfl⟩
 | n+1,M,h=>by
  unfold rst
  split
  ·have:=qYb p i n (aA ⟨i,0⟩ h)
   exact ⟨this.1,by rw [this.2,(iZ M ⟨i,0⟩).1]⟩
  ·exact ⟨h,rfl⟩
def qOe (p:wM) (l:List Nat) (q:qO×List Int):qO×List Int:=l.foldl (fun q i=>tG p i 40 q) q
theorem qQa (p:wM) :∀(l:List Nat) (q:qO×List Int),(qOe p l q).1=qIl p l q.1
 | [],_=>rfl
 | i::l,q=>by
  unfold qOe qIl
  simp only [List.foldl_cons]
  have:=qQa p l (tG p i 40 q)
  unfold qOe qIl at this
  rw [this,qQ8]
theorem qUz (p:wM) :∀(l:List Nat) {M:qO},wP M=true→wP (qIl p l M)=true∧(qIl p l M).cores.length=M.cores.length
 | [],_,h=>⟨h,rfl⟩
 | i::l,M,h=>by
  have h1:=qYb p i 40 h
  have h2:=qUz p l h1.1
  exact ⟨h2.1,by show (qIl p l (rst p i 40 M)).cores.length=_; rw [h2.2,h1.2]⟩
def qD6 (p:wM) (n:Nat):Nat→qO×List Int→qO×List Int
 | 0,q=>q
 | k+1,q=>qD6 p n k (qOe p (List.range n) q)
def qD7 (p:wM) (n:Nat):Nat→qO→qO
 | 0,M=>M
 | k+1,M=>qD7 p n k (qIl p (List.range n) M)
theorem qMr (p:wM) (n:Nat) :∀(k:Nat) (q:qO×List Int),(qD6 p n k q).1=qD7 p n k q.1
 | 0,_=>rfl
 | k+1,q=>by
  unfold qD6 qD7
  rw [qMr p n k,qQa]
theorem qQc (p:wM) (n:Nat) :∀(k:Nat) {M:qO},wP M=true→wP (qD7 p n k M)=true∧(qD7 p n k M).cores.length=M.cores.length
 | 0,_,h=>⟨h,rfl⟩
 | k+1,M,h=>by
  have h1:=qUz p (List.range n) h
  have h2:=qQc p n k h1.1
  exact ⟨h2.1,by show (qD7 p n k (qIl p (List.range n) M)).cores.length=_; rw [h2.2,h1.2]⟩
theorem qI3 {n j:Nat} (h:j<n):n-j=(n-(j+1))+1:=by omega
theorem qKh {n i:Nat} (h:i<n):(List.range n).drop i=i::(List.range n).drop (i+1):=by
 rw [List.drop_eq_getElem_cons (by simpa using h)]
 simp
theorem qU9 (p:wM) (m:qO) (i:Nat):qHp p m i=(qP (i:Int) 0 (m.cores.length-1)&&decide ((qJ m i).st=0)&&(vY p i (qJ m i).at_).2):=rfl
theorem qJw (p:wM) (m:qO) (i:Nat) (hp:bF p) (hl:m.cores.length<2^40) (hi:i<m.cores.length):qW Tryz.prog num 437 [.agg (jF .bw p),.fptr .bw (qR .bw m) 0,.int .i64 i] [] (.bool (qHp p m i)):=by
 refine EN m437 Tryz.func90 ?_
 unfold m437
 have hw:qP (i:Int) 0 (m.cores.length-1)=true:=by rw [qN]; omega
 have hcg:=jR .bw m.cores i hi
 have hk:m.cores.getD i default=qJ m i:=rfl
 rw [hk] at hcg
 rw [qU9,hw,Bool.true_and]
 simp only [go_sem,seval]
 refine CA [] (qB7 m i hl) ?_
 try simp only [go_sem,seval]
 try simp only [go_sem,seval,hw,hcg]
 repeat refine K ?_
 refine DA [] (qAd p i (qJ m i).at_ hp) ?_
 try simp only [go_sem,seval]
 repeat refine K ?_
 try simp only [go_sem,seval,hcg]
 by_cases hst:(qJ m i).st=0
 ·try simp only [go_sem,seval,hst,hcg]
  refine fz ?_; simp [qZ,qU,qV,qQ,-List.drop_one]
 ·try simp only [go_sem,seval,hst,hcg]
  refine fz ?_; simp [qZ,qU,qV,qQ,-List.drop_one]
theorem qRb (p:wM) (m:qO) (hp:bF p) (h:wP m=true):qW Tryz.prog num 427 [.ptr 0 0 0,.agg (jF .bw p)] [(0,some (4,[qR .own m]),some (4,[qR .own (qD7 p m.cores.length 4 m)]))] (.sl .own 1 (wN (qD6 p m.cores.length 4 (m,[])).2)):=by
 have hM:=(yO m).1 h
 have hc0:=hM.cores
 have hn4:=hM.n4
 have hfst:=qMr p m.cores.length 4 (m,[])
 simp only at hfst
 rw [←hfst]
 refine EH m427 Tryz.func85 ?_
 unfold m427
 simp only [go_sem,seval]
 generalize hn:m.cores.length=n at *
 refine qX (ι:=Nat×qO×List Int) (fun q=>.mk [(0,.ptr 0 0 0),(3,.ptr 10 0 0),(5,.ns 11 0 q.2.2.length),(10,.int .i64 q.1)] [(0,4,[qR .own q.2.1]),(10,2,[jF .bw p]),(11,1,wN q.2.2)] 12) (fun q=>q.1≤4∧wP q.2.1=true∧q.2.1.cores.length=n∧q.2.2.length≤160*q.1∧qD6 p n (4-q.1) q.2=qD6 p n 4 (m,[])) (fun q=>4-q.1) (0,m,[]) ⟨by simp,h,hn,by simp,rfl⟩ ?_ ?_
 ·refine Sub.shape [] id (by omega) ?_ ?_ ?_ ?_<;>simp [qK]
  all_goals simp [wN]
 ·rintro ⟨k,M,o⟩ ⟨hk,hMk,hlen,ho,he⟩
  simp only at hk hMk hlen ho he
  simp only [go_sem,seval]
  refine qL (fun hc=>?_) (fun hc=>?_)
  rotate_left
  case _ =>
   simp only [decide_eq_false_iff_not] at hc
   obtain rfl:k=4:=by omega
   have he':(M,o)=qD6 p n 4 (m,[]):=he
   rw [←he']
   simp only [go_sem,seval]
   apply wE
   ·exact Sub.refl _
   ·simp [-List.drop_one,-gD,qR]<;>(first | rfl | exact ⟨rfl,rfl⟩ | exact ⟨rfl,rfl,rfl⟩ | skip)
  simp only [decide_eq_true_eq] at hc
  have hk4:k<4:=by omega
  rw [qI3 hk4] at he
  simp only [go_sem,seval,hlen]
  refine qX (ι:=Nat×qO×List Int) (fun q=>.mk [(0,.ptr 0 0 0),(3,.ptr 10 0 0),(5,.ns 11 0 q.2.2.length),(10,.int .i64 k),(16,.int .i64 n),(17,.int .i64 q.1)] [(0,4,[qR .own q.2.1]),(10,2,[jF .bw p]),(11,1,wN q.2.2)] 12) (fun q=>q.1≤n∧wP q.2.1=true∧q.2.1.cores.length=n∧q.2.2.length≤160*k+40*q.1∧qOe p ((List.range n).drop q.1) q.2=qOe p (List.range n) (M,o)) (fun q=>n-q.1) (0,M,o) ⟨by simp,hMk,hlen,by simp only; omega,by simp⟩ ?_ ?_
  ·refine Sub.trans (Sub.fold1 0 1 12 rfl (by simp [-gD]<;>omega) rfl (by decide) (by decide) rfl) ?_
   simp only [fS,fS2,qA,qC]
   refine Sub.shape [] id (by omega) ?_ ?_ ?_ ?_<;>simp [qK]
   all_goals exact fun e=>absurd hlen e
  ·rintro ⟨i,M1,o1⟩ ⟨hi,hM1,hlen1,ho1,he1⟩
   simp only at hi hM1 hlen1 ho1 he1
   simp only [go_sem,seval]
   refine qL (fun hc1=>?_) (fun hc1=>?_)
   rotate_left
   case _ =>
    simp only [decide_eq_false_iff_not] at hc1
    obtain rfl:i=n:=by omega
    have he1':(M1,o1)=qOe p (List.range i) (M,o):=by
     rw [←he1,List.drop_eq_nil_of_le (by simp)]
     rfl
    simp only [go_sem,seval,qS (i:=k) (by omega)]
    refine qT (k+1,M1,o1) ?_ ⟨hk4,hM1,hlen1,by simp only; omega,by rw [←he]; simp only [qD6]; rw [←he1']⟩ (by simp only; omega)
    refine Sub.shape [] id (by omega) ?_ ?_ ?_ ?_<;>simp [qK]
   simp only [decide_eq_true_eq] at hc1
   have hin:i<n:=by omega
   rw [qKh hin] at he1
   simp only [go_sem,seval]
   refine qX (ι:=Nat×qO×List Int) (fun q=>.mk [(0,.ptr 0 0 0),(3,.ptr 10 0 0),(5,.ns 11 0 q.2.2.length),(6,.int .i64 i),(10,.int .i64 k),(16,.int .i64 n),(17,.int .i64 i),(20,.int .i64 q.1)] [(0,4,[qR .own q.2.1]),(10,2,[jF .bw p]),(11,1,wN q.2.2)] 12) (fun q=>q.1≤40∧wP q.2.1=true∧q.2.1.cores.length=n∧q.2.2.length≤160*k+40*i+q.1∧tG p i (40-q.1) q.2=tG p i 40 (M1,o1)) (fun q=>40-q.1) (0,M1,o1) ⟨by simp,hM1,hlen1,by simp only; omega,rfl⟩ ?_ ?_
   ·refine Sub.shape [] id (by omega) ?_ ?_ ?_ ?_<;>simp [qK]
   ·rintro ⟨j,M2,o2⟩ ⟨hj,hM2,hlen2,ho2,he2⟩
    simp only at hj hM2 hlen2 ho2 he2
    have bK :∀q,q=tG p i 40 (M1,o1)→qOe p ((List.range n).drop (i+1)) q=qOe p (List.range n) (M,o):=fun q hq=>by
     rw [←he1,hq]
     rfl
    simp only [go_sem,seval]
    refine qL (fun hc2=>?_) (fun hc2=>?_)
    rotate_left
    case _ =>
     simp only [decide_eq_false_iff_not] at hc2
     obtain rfl:j=40:=by omega
     simp only [go_sem,seval,qS (i:=i) (by omega)]
     refine qT (i+1,M2,o2) ?_ ⟨hin,hM2,hlen2,by simp only; omega,bK _ he2⟩ (by simp only; omega)
     refine Sub.shape [] id (by omega) ?_ ?_ ?_ ?_<;>simp [qK]
    simp only [decide_eq_true_eq] at hc2
    have hj40:j<40:=by omega
    rw [qI3 hj40] at he2
    have hil:i<M2.cores.length:=by omega
    have hcg:=jR .own M2.cores i hil
    have hkk:M2.cores.getD i default=qJ M2 i:=rfl
    rw [hkk] at hcg
    simp only [go_sem,seval,hcg]
    repeat refine K ?_
    by_cases hst:(qJ M2 i).st=0
    case neg =>
     have hgo:qGg p M2 i=false:=by simp [qGg,hst]
     have he3:(M2,o2)=tG p i 40 (M1,o1):=by
      rw [←he2]
      simp only [tG,hgo]
      rfl
     try simp only [go_sem,seval,hst,hcg,qS (i:=i) (by omega)]
     refine qT (i+1,M2,o2) ?_ ⟨hin,hM2,hlen2,by simp only; omega,bK _ he3⟩ (by simp only; omega)
     refine Sub.trans (Sub.fold1 0 1 12 rfl (by simp [-gD]<;>omega) rfl (by decide) (by decide) rfl) ?_
     simp only [fS,fS2,qA,qC]
     refine Sub.shape [] id (by omega) ?_ ?_ ?_ ?_<;>simp [qK]
    try simp only [go_sem,seval,hst,hcg]
    apply zX
    ·refine Sub.trans (Sub.fold1 0 1 12 rfl (by simp [-gD]<;>omega) rfl (by decide) (by decide) rfl) ?_
     simp only [fS,fS2,qA,qC]
     exact Sub.refl _
    refine CA [] (qJw p M2 i hp (by omega) hil) ?_
    try simp only [go_sem,seval]
    cases hb:qHp p M2 i
    case true =>
     have hgo:qGg p M2 i=false:=by simp [qGg,hb]
     have he3:(M2,o2)=tG p i 40 (M1,o1):=by
      rw [←he2]
      simp only [tG,hgo]
      rfl
     try simp only [go_sem,seval,hb,qS (i:=i) (by omega)]
     refine qT (i+1,M2,o2) ?_ ⟨hin,hM2,hlen2,by simp only; omega,bK _ he3⟩ (by simp only; omega)
     refine Sub.shape [] id (by omega) ?_ ?_ ?_ ?_<;>simp [qK]
    have hgo:qGg p M2 i=true:=by simp [qGg,hb,hst]
    try simp only [go_sem,seval,hb]
    refine CA [(0,0)] (pW p M2 ⟨i,0⟩ hp hM2 (by unfold tT; simp)) ?_
    try simp only [go_sem,seval]
    have hM3:=aA ⟨i,0⟩ hM2
    have hlen3:=(iZ M2 ⟨i,0⟩).1
    cases hd:did p M2 ⟨i,0⟩
    ·have he3:tG p i (40-(j+1)) ((wZ M2 ⟨i,0⟩).1,o2)=tG p i 40 (M1,o1):=by
      rw [←he2]
      simp only [tG,hgo,hd]
      simp
     try simp only [go_sem,seval,hd,qS (i:=j) (by omega)]
     refine qT (j+1,(wZ M2 ⟨i,0⟩).1,o2) ?_ ⟨hj40,hM3,by rw [hlen3]; exact hlen2,by simp only; omega,he3⟩ (by simp only; omega)
     refine Sub.shape [] id (by omega) ?_ ?_ ?_ ?_<;>simp [qK]
    ·have he3:tG p i (40-(j+1)) ((wZ M2 ⟨i,0⟩).1,o2++[(i:Int)])=tG p i 40 (M1,o1):=by
      rw [←he2]
      simp only [tG,hgo,hd]
      simp
     try simp only [go_sem,seval,hd,qS (i:=j) (by omega)]
     repeat refine K ?_
     refine qT (j+1,(wZ M2 ⟨i,0⟩).1,o2++[(i:Int)]) ?_ ⟨hj40,hM3,by rw [hlen3]; exact hlen2,by simp; omega,he3⟩ (by simp only; omega)
     refine Sub.shape [] (fun n=>if n=11 then 14 else n) (by omega) ?_ ?_ ?_ ?_<;>simp [qK]
     exact .inl (by simp [wN])
end Go.Sep
