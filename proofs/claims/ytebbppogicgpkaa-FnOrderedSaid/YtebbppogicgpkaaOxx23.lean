/- Contracts of functions. -/
import Derived.Test.YtebbppogicgpkaaOxx22
namespace Go.Sep
set_option maxHeartbeats 16000000
open Go.Proofs
set_option linter.unusedSimpArgs false
set_option linter.unusedVariables false
set_option maxRecDepth 100000
open Nat renaming reduceAdd → qA, reduceMul → qB, reduceEqDiff → qC, reduceBEq → qD
open Int renaming reduceToNat → qE, reduceEq → qF, reduceLT → qG, reduceLE → qH
open List renaming getD_eq_getElem?_getD → gD
def m404:MFn:=⟨58,[.cell 6 4 true,.t 7],kr [xb 3 0,xb 4 1,xo 6 (.alloc [.nil,.nil,.nil,.nil]),xI 7 0] (.seq (kr [xm 14 2 3,xm 15 4 4,xc2 16 426 (.t 14) (.t 15),xN 17 16] (kF 17 [xo 18 (.build [.nil,.nil,.nil,.nil] []),xS 4 6 18,xI 7 0])) (kr [xm 19 4 4,xc1 20 358 (.t 19),xo 8 (.alloc [.nil,.nil,.nil,.nil]),xS 4 8 20] (.seq (kr [xI 9 0] (.blk 0 (.loop (.seq (kr [xv 21 9,xv 22 2,bT 23 .lss 21 22,xv 24 23,yv 25 9 24,yI 26 .lss 25 60 24,xP 27 24 26] (kX 27 0)) (.seq (.blk 1 (kr [xm 30 2 3,xo 31 (.call 427 [true,false] [.t 8,.t 30])] (kr [xa 32 1 8,xl 33 32,xe 34 33,xI 35 0] (.blk 2 (.loop (kr [bT 36 .lss 35 34] (.seq (kX 36 2) (.seq (.blk 3 (kr [xv 37 35,xv 10 37] (kr [xv 38 10,xo 39 (.call 346 [true,false,false] [.t 8,.t 38,xi 40])] (xr [xm 40 2 3,xo 41 (.call 427 [true,false] [.t 8,.t 40])])))) (xr [bI 42 .add 35 1,xv 35 42]))))))))) (xr [xv 28 9,bI 29 .add 28 1,xv 9 29])))))) (kr [xI 11 0] (.seq (kr [xa 43 1 8,xl 44 43,xe 45 44,xI 46 0] (.blk 4 (.loop (kr [bT 47 .lss 46 45] (.seq (kX 47 4) (.seq (.blk 5 (kr [xD 48 4 44 46,xm 49 4 48,xo 13 (.alloc [.int .i64 0,.nil,.nil,.int .i64 0]),xS 4 13 49] (kr [xa 50 3 13,xl 51 50,bI 52 .neq 51 0] (.cond 52 (xr [xv 53 11,bI 54 .add 53 1,xv 11 54]) (.skip))))) (xr [bI 55 .add 46 1,xv 46 55]))))))) (kR [xm 56 4 8,xv 57 11,xS 4 6 56,xv 7 57]))))))⟩
def qC9 (p:wN) (M:qK):qK:=sY p M.cores.length 4 M
def kC (p:wN) (M:qK) (i:Nat):qK:=qC9 p (uV (dS 40) M i)
def finWho (p:wN) (l:List Nat) (M:qK):qK:=l.foldl (kC p) M
def finN (p:wN) (n:Nat):Nat→qK→qK
 | 0,M=>M
 | k+1,M=>finN p n k (finWho p (List.range n) (qC9 p M))
theorem qLf (p:wN) {M:qK} (h:wJ M=true):wJ (qC9 p M)=true∧(qC9 p M).cores.length=M.cores.length:=qKg p _ 4 h
theorem qN6 (p:wN) {M:qK} (i:Nat) (h:wJ M=true):wJ (kC p M i)=true∧(kC p M i).cores.length=M.cores.length:=by
 have h1:=rS (dS 40) (i:Int) h
 have h2:=(qC2 (dS 40) M (i:Int)).1
 have h3:=qLf p h1
 exact ⟨h3.1,by unfold kC; rw [h3.2,h2]⟩
def zP (M:qK):Nat→Nat
 | 0=>0
 | k+1=>zP M k+(if (qJ M k).st=0 then 0 else 1)
theorem qE5 (M:qK) :∀k,zP M k≤k
 | 0=>Nat.le_refl _
 | k+1=>by
  have:=qE5 M k
  unfold zP
  split<;>omega
def tY (rounds:Int):Nat:=(min rounds 60).toNat
def kY (p:wN) (m:qK) (rounds:Int):qK×Nat :=
 if wJ m&&decide (m.cores.length=p.bods.length) then (finN p m.cores.length (tY rounds) m,zP (finN p m.cores.length (tY rounds) m) m.cores.length) else (qB0,0)
theorem tU (p:wN) (m:qK) (hp:xE p) (h:wJ m=true):wD Try.prog num 427 [.ptr 0 0 0,.agg (vP .bw p)] [(0,some (4,[qS .own m]),some (4,[qS .own (qC9 p m)]))] (.sl .own 1 (wT (sX p m.cores.length 4 (m,[])).2)):=qLc p m hp h
theorem qGj (p:wN) (m:qK) (rounds:Int) (hp:xE p) (hm:sG m):wD Try.prog num 404 [.agg (vP .bw p),.agg (qS .bw m),.int .i64 rounds] [] (.tup [.agg (qS .own (kY p m rounds).1),.int .i64 (kY p m rounds).2]):=by
 refine EN m404 Try.func8 ?_
 unfold m404
 simp only [go_sem,seval]
 refine CA [] (qKf p m hm) ?_
 try simp only [go_sem,seval]
 cases hok:(wJ m&&decide (m.cores.length=p.bods.length))
 ·have hr:kY p m rounds=(qB0,0):=by unfold kY; rw [hok]; rfl
  rw [hr]
  try simp only [go_sem,seval,hok]
  apply jV (by simp)
  ·exact Sub.refl _
  ·simp [-List.drop_one,-gD,qS,qB0]<;>(first | rfl | exact ⟨rfl,rfl⟩ | exact ⟨rfl,rfl,rfl⟩ | skip)
 have hr:kY p m rounds=(finN p m.cores.length (tY rounds) m,zP (finN p m.cores.length (tY rounds) m) m.cores.length):=by unfold kY; rw [hok]; rfl
 rw [hr]
 have hMo:wJ m=true:=by simp only [Bool.and_eq_true] at hok; exact hok.1
 have hM0:=(yH m).1 hMo
 have hc0:=hM0.cores
 have hn4:=hM0.n4
 try simp only [go_sem,seval,hok]
 refine CA [] (qF8 m hm) ?_
 try simp only [go_sem,seval]
 clear hr hok
 generalize hn:m.cores.length=n at *
 have hR:(tY rounds:Int)≤60∧((tY rounds:Int)≤rounds∨tY rounds=0)∧(rounds≤tY rounds∨(tY rounds:Int)=60):=by unfold tY; omega
 generalize tY rounds=R at *
 refine wL (ι:=Nat×qK) (fun q=>.mk [(2,.int .i64 rounds),(3,.ptr 10 0 0),(6,.ptr 12 0 0),(8,.ptr 13 0 0),(9,.int .i64 q.1)] [(10,2,[vP .bw p]),(12,4,[[.nil,.nil,.nil,.nil]]),(13,4,[qS .own q.2])] 14) (fun q=>q.1≤R∧wJ q.2=true∧q.2.cores.length=n∧finN p n (R-q.1) q.2=finN p n R m) (fun q=>R-q.1) (0,m) ⟨by simp,hMo,hn,rfl⟩ ?_ ?_
 ·refine Sub.trans (Sub.fold1 17 0 13 rfl (by simp [-gD]<;>omega) rfl (by decide) (by decide) rfl) ?_
  simp only [fS,fS2,qA,qC]
  refine Sub.trans (Sub.fold1 17 1 14 rfl (by simp [-gD]<;>omega) rfl (by decide) (by decide) rfl) ?_
  simp only [fS,fS2,qA,qC]
  refine Sub.trans (Sub.fold1 17 2 15 rfl (by simp [-gD]<;>omega) rfl (by decide) (by decide) rfl) ?_
  simp only [fS,fS2,qA,qC]
  refine Sub.trans (Sub.fold1 17 3 16 rfl (by simp [-gD]<;>omega) rfl (by decide) (by decide) rfl) ?_
  simp only [fS,fS2,qA,qC]
  refine Sub.shape [] (fun n=>if n=13 then 17 else n) (by omega) ?_ ?_ ?_ ?_<;>simp [qP]
  all_goals exact fun e=>absurd hn e
 ·rintro ⟨k,M⟩ ⟨hk,hMk,hlen,he⟩
  simp only at hk hMk hlen he
  by_cases hkR:k<R
  case neg =>
   obtain rfl:k=R:=by omega
   have he':M=finN p n k m:=by rw [←he,Nat.sub_self]; rfl
   rw [←he']
   have hM:=(yH M).1 hMk
   have hc1:=hM.cores
   have hn41:=hM.n4
   clear he' he
   subst hlen
   by_cases h1:(k:Int)<rounds
   ·have h3 :¬(k:Int)<60:=by omega
    simp only [go_sem,seval,h1,h3]
    refine wL (ι:=Nat) (fun i=>.mk [(6,.ptr 12 0 0),(8,.ptr 13 0 0),(11,.int .i64 (zP M i)),(44,.ns 14 0 M.cores.length),(45,.int .i64 M.cores.length),(46,.int .i64 i)] [(12,4,[[.nil,.nil,.nil,.nil]]),(13,4,[[.sl .own 1 (codes .own M.codes),.ns 14 0 M.cores.length,.sl .own 1 (jT .own M.mem.cells),.sl .own 2 (yW M.tr)]]),(14,4,cores .own M.cores)] 15) (fun i=>i≤M.cores.length) (fun i=>M.cores.length-i) 0 (by simp) ?_ ?_
    ·refine Sub.link id (by omega) ?_ ?_ ?_<;>(simp [qP,qG8,okB,oB,dV,zF,jA,zP]; done)
    ·rintro i hi
     simp only [go_sem,seval]
     refine qT (fun hc=>?_) (fun hc=>?_)
     ·simp only [decide_eq_true_eq] at hc
      have hi':i<M.cores.length:=by omega
      have hcg:=uI .own M.cores i hi'
      have hcself:(cores .own M.cores).set i [.int .i64 (qJ M i).at_,.sl .own 1 (wT (qJ M i).regs),.sl .own 1 (wT (qJ M i).view),.int .i64 (qJ M i).st]=cores .own M.cores:=by rw [show qJ M i=M.cores.getD i default from rfl,←hcg,jQ _ _ _ (by rw [bE]; exact hi')]
      have hkk:M.cores.getD i default=qJ M i:=rfl
      rw [hkk] at hcg
      have ho:=qE5 M i
      by_cases hst:(qJ M i).st=0
      ·have e:zP M (i+1)=zP M i:=by
        show zP M i+_=_
        rw [if_pos hst]
        rfl
       simp only [go_sem,seval,wB (i:=i) (by omega),hcg,hst]
       repeat refine K ?_
       refine wC (i+1) ?_ hi' (by omega)
       rw [e]
       rw [hst] at hcself
       refine FA 14 1 15 ?_
       simp only [fS,fS2,fS2,qA,qC]
       refine FA 14 2 16 ?_
       simp only [fS,fS2,fS2,qA,qC,hcself]
       refine Sub.link id (by omega) ?_ ?_ ?_<;>(simp [qP,qG8,okB,oB,dV,zF,jA]; done)
      ·have e:zP M (i+1)=zP M i+1:=by
        show zP M i+_=_
        rw [if_neg hst]
       simp only [go_sem,seval,wB (i:=i) (by omega),wB (i:=zP M i) (by omega),hcg,hst]
       repeat refine K ?_
       refine wC (i+1) ?_ hi' (by omega)
       rw [e]
       refine FA 14 1 15 ?_
       simp only [fS,fS2,fS2,qA,qC]
       refine FA 14 2 16 ?_
       simp only [fS,fS2,fS2,qA,qC,hcself]
       refine Sub.link id (by omega) ?_ ?_ ?_<;>(simp [qP,qG8,okB,oB,dV,zF,jA]; done)
     ·simp only [decide_eq_false_iff_not] at hc
      obtain rfl:i=M.cores.length:=by omega
      simp only [go_sem,seval]
      apply jV (by simp)
      ·exact Sub.refl _
      ·simp [-List.drop_one,-gD,qS]<;>(first | rfl | exact ⟨rfl,rfl⟩ | exact ⟨rfl,rfl,rfl⟩ | skip)
   ·simp only [go_sem,seval,h1]
    refine wL (ι:=Nat) (fun i=>.mk [(6,.ptr 12 0 0),(8,.ptr 13 0 0),(11,.int .i64 (zP M i)),(44,.ns 14 0 M.cores.length),(45,.int .i64 M.cores.length),(46,.int .i64 i)] [(12,4,[[.nil,.nil,.nil,.nil]]),(13,4,[[.sl .own 1 (codes .own M.codes),.ns 14 0 M.cores.length,.sl .own 1 (jT .own M.mem.cells),.sl .own 2 (yW M.tr)]]),(14,4,cores .own M.cores)] 15) (fun i=>i≤M.cores.length) (fun i=>M.cores.length-i) 0 (by simp) ?_ ?_
    ·refine Sub.link id (by omega) ?_ ?_ ?_<;>(simp [qP,qG8,okB,oB,dV,zF,jA,zP]; done)
    ·rintro i hi
     simp only [go_sem,seval]
     refine qT (fun hc=>?_) (fun hc=>?_)
     ·simp only [decide_eq_true_eq] at hc
      have hi':i<M.cores.length:=by omega
      have hcg:=uI .own M.cores i hi'
      have hcself:(cores .own M.cores).set i [.int .i64 (qJ M i).at_,.sl .own 1 (wT (qJ M i).regs),.sl .own 1 (wT (qJ M i).view),.int .i64 (qJ M i).st]=cores .own M.cores:=by rw [show qJ M i=M.cores.getD i default from rfl,←hcg,jQ _ _ _ (by rw [bE]; exact hi')]
      have hkk:M.cores.getD i default=qJ M i:=rfl
      rw [hkk] at hcg
      have ho:=qE5 M i
      by_cases hst:(qJ M i).st=0
      ·have e:zP M (i+1)=zP M i:=by
        show zP M i+_=_
        rw [if_pos hst]
        rfl
       simp only [go_sem,seval,wB (i:=i) (by omega),hcg,hst]
       repeat refine K ?_
       refine wC (i+1) ?_ hi' (by omega)
       rw [e]
       rw [hst] at hcself
       refine FA 14 1 15 ?_
       simp only [fS,fS2,fS2,qA,qC]
       refine FA 14 2 16 ?_
       simp only [fS,fS2,fS2,qA,qC,hcself]
       refine Sub.link id (by omega) ?_ ?_ ?_<;>(simp [qP,qG8,okB,oB,dV,zF,jA]; done)
      ·have e:zP M (i+1)=zP M i+1:=by
        show zP M i+_=_
        rw [if_neg hst]
       simp only [go_sem,seval,wB (i:=i) (by omega),wB (i:=zP M i) (by omega),hcg,hst]
       repeat refine K ?_
       refine wC (i+1) ?_ hi' (by omega)
       rw [e]
       refine FA 14 1 15 ?_
       simp only [fS,fS2,fS2,qA,qC]
       refine FA 14 2 16 ?_
       simp only [fS,fS2,fS2,qA,qC,hcself]
       refine Sub.link id (by omega) ?_ ?_ ?_<;>(simp [qP,qG8,okB,oB,dV,zF,jA]; done)
     ·simp only [decide_eq_false_iff_not] at hc
      obtain rfl:i=M.cores.length:=by omega
      simp only [go_sem,seval]
      apply jV (by simp)
      ·exact Sub.refl _
      ·simp [-List.drop_one,-gD,qS]<;>(first | rfl | exact ⟨rfl,rfl⟩ | exact ⟨rfl,rfl,rfl⟩ | skip)
  have h1:(k:Int)<rounds:=by omega
  have h2:(k:Int)<60:=by omega
  rw [qDi hkR] at he
  have f1:=qLf p hMk
  have hI:=tU p M hp hMk
  have hef:finN p n (R-(k+1)) (finWho p (List.range n) (qC9 p M))=finN p n R m:=he
  generalize qC9 p M=M0 at *
  simp only [go_sem,seval,h1,h2]
  refine CA [(0,13)] (hI) ?_
  try simp only [go_sem,seval]
  have hn0:M0.cores.length=n:=by omega
  try simp only [go_sem,seval,hn0]
  refine wL (ι:=Nat×qK) (fun q=>.mk [(2,.int .i64 rounds),(3,.ptr 10 0 0),(6,.ptr 12 0 0),(8,.ptr 13 0 0),(9,.int .i64 k),(34,.int .i64 n),(35,.int .i64 q.1)] [(10,2,[vP .bw p]),(12,4,[[.nil,.nil,.nil,.nil]]),(13,4,[qS .own q.2])] 14) (fun q=>q.1≤n∧wJ q.2=true∧q.2.cores.length=n∧finWho p ((List.range n).drop q.1) q.2=finWho p (List.range n) M0) (fun q=>n-q.1) (0,M0) ⟨by simp,f1.1,hn0,rfl⟩ ?_ ?_
  ·refine Sub.trans (Sub.fold1 13 1 15 rfl (by simp [-gD]<;>omega) rfl (by decide) (by decide) rfl) ?_
   simp only [fS,fS2,qA,qC]
   refine Sub.shape [] id (by omega) ?_ ?_ ?_ ?_<;>simp [qP]
   all_goals exact fun e=>absurd hn0 e
  ·rintro ⟨j,M1⟩ ⟨hj,hM1,hlen1,he1⟩
   simp only at hj hM1 hlen1 he1
   simp only [go_sem,seval]
   refine qT (fun hc1=>?_) (fun hc1=>?_)
   ·simp only [decide_eq_true_eq] at hc1
    have hj':j<n:=by omega
    rw [qF2 hj'] at he1
    have a1:=rS (dS 40) (j:Int) hM1
    have a2:=qN6 p j hM1
    have hA:=qEz M1 j 40 hM1
    have hB:wD Try.prog num 427 _ _ _:=tU p (uV (dS 40) M1 j) hp a1
    have hef1:finWho p ((List.range n).drop (j+1)) (kC p M1 j)=finWho p (List.range n) M0:=he1
    change wD Try.prog num 427 [.ptr 0 0 0,.agg (vP .bw p)] [(0,some (4,[qS .own (uV (dS 40) M1 j)]),some (4,[qS .own (kC p M1 j)]))] _ at hB
    generalize kC p M1 j=M2 at *
    generalize uV (dS 40) M1 j=M3 at *
    simp only [go_sem,seval,wB (i:=j) (by omega)]
    refine CA [(0,13)] (hA) ?_
    try simp only [go_sem,seval]
    refine CA [(0,13)] (hB) ?_
    try simp only [go_sem,seval]
    try simp only [go_sem,seval,wB (i:=j) (by omega)]
    refine wC (j+1,M2) ?_ ⟨hj',a2.1,by rw [a2.2]; exact hlen1,hef1⟩ (by simp only; omega)
    refine Sub.shape [] id (by omega) ?_ ?_ ?_ ?_<;>simp [qP]
   ·simp only [decide_eq_false_iff_not] at hc1
    obtain rfl:j=n:=by omega
    have he1':M1=finWho p (List.range j) M0:=by
     rw [←he1,List.drop_eq_nil_of_le (by simp)]
     rfl
    simp only [go_sem,seval,wB (i:=k) (by omega)]
    refine wC (k+1,M1) ?_ ⟨hkR,hM1,hlen1,by rw [he1']; exact hef⟩ (by simp only; omega)
    refine Sub.shape [] id (by omega) ?_ ?_ ?_ ?_<;>simp [qP]
def jL (cs:List (List wO)) (c:Nat):Int:=((cs.getD c []).getD ((cs.getD c []).length-1) default).v
def qOn:uE:=⟨0,[],false⟩
def qLp (cs:List (List wO)) (b:Nat) (room f:Int) (k:Nat):List Int:=(List.range k).map fun (i:Nat)=>jL cs (b+4+((f+(i:Int))%room).toNat)
theorem qJn (cs:List (List wO)) (b:Nat) (room f:Int) (k:Nat):(qLp cs b room f k).length=k:=by simp [qLp]
def qNl (cs:List (List wO)) (b:Nat) (room:Int):uE×Bool :=
 if qL (jL cs (b+1)) 0 (room-1)&&qL (jL cs (b+2)) 0 room&&qL (jL cs (b+3)) 0 1 then
  (⟨room,qLp cs b room (jL cs (b+1)) (jL cs (b+2)).toNat,decide (jL cs (b+3)=1)⟩,true)
 else (qOn,false)
def qBf (cs:List (List wO)) (caps:List Int) (n:Int):uE×Bool :=
 if !decide (base caps n<0)&&zS cs then qNl cs (base caps n).toNat (caps.getD n.toNat 0) else (qOn,false)
def qD0 (cs:List (List wO)) (caps:List Int) (n:Int):Bool:=decide (0≤base caps n)&&zS cs&&!decide (jL cs (base caps n).toNat=0)
theorem zK {p:wN} (h:vD p=true):wF p (jP p).1=true:=by
 have hp:=h
 simp only [vD,aE,Bool.and_eq_true,decide_eq_true_eq] at hp
 obtain ⟨⟨⟨hb,_⟩,hc⟩,_⟩:=hp
 rw [vU]
 simp only [jP,h,if_true]
 refine ⟨?_,?_,?_,?_,fun i hi=>?_,fun j hj=>?_⟩
 any_goals (first | exact h | (simp; done) | (simp [dJ]; done))
 ·have hi':i<p.bods.length:=by simpa using hi
  have hg:(List.replicate p.bods.length eB).getD i default=eB:=by simp [List.getD_eq_getElem?_getD,hi']
  have h2:=List.all_eq_true.1 hb _ (yQ p.bods i [] hi')
  simp only [uT,Bool.and_eq_true,qM] at h2
  rw [hg]
  simp only [uF,eB,Bool.and_eq_true,decide_eq_true_eq,qM]
  refine ⟨⟨rfl,by omega⟩,by omega⟩
 ·have hj':j<p.caps.length:=by simpa using hj
  have hg:(p.caps.map fun c=>(⟨c,[],false⟩:uE)).getD j default=⟨p.caps.getD j 0,[],false⟩:=by simp [List.getD_eq_getElem?_getD,hj']
  rw [hg]
  have h2:=List.all_eq_true.1 hc _ (yQ p.caps j 0 hj')
  refine ⟨?_,rfl⟩
  simp only [jZ,h2,Bool.true_and,decide_eq_true_eq]
  rw [qM] at h2
  simp [-List.getD_eq_getElem?_getD]
  omega
theorem qH2 {p:wN} (h:vD p=true):xE p:=by
 simp only [vD,Bool.and_eq_true,decide_eq_true_eq,qM] at h
 obtain ⟨⟨⟨hb,h1⟩,_⟩,h2⟩:=h
 refine ⟨by omega,by omega,fun b hb'=>?_⟩
 have:=List.all_eq_true.1 hb b hb'
 simp only [uT,Bool.and_eq_true,qM] at this
 omega
end Go.Sep
