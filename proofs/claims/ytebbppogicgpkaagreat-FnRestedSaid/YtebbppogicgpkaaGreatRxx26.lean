/- Contracts of functions. -/
import Derived.Test.YtebbppogicgpkaaGreatRxx23
import Derived.Test.YtebbppogicgpkaaGreatRxx24
namespace Go.Sep
set_option maxHeartbeats 16000000
open Go.Proofs
set_option linter.unusedSimpArgs false
set_option linter.unusedVariables false
set_option maxRecDepth 100000
open Nat renaming reduceAdd → qA, reduceMul → qB, reduceEqDiff → qC, reduceBEq → qD
open Int renaming reduceToNat → qE, reduceEq → qF, reduceLT → qG, reduceLE → qH
open List renaming getD_eq_getElem?_getD → gD
def m403:MFn:=⟨68,[.cell 6 4 true,.t 7],kr [xb 3 0,xb 4 1,xo 6 (.alloc [.nil,.nil,.nil,.nil]),xI 7 0] (.seq (kr [xm 13 4 4,xc1 14 233 (.t 13),xN 15 14,xv 16 15,za 17 1 4 16,zl 18 1 17 16,ze 19 18 16,za 20 1 3 16,zl 21 1 20 16,ze 22 21 16,xg 23 (.bin .neq (.t 19) (.t 22)) 16 false,xQ 24 16 23] (kF 24 [xo 25 (.build [.nil,.nil,.nil,.nil] []),xS 4 6 25,xI 7 0])) (kr [xm 26 4 4,xc1 27 356 (.t 26),xo 8 (.alloc [.nil,.nil,.nil,.nil]),xS 4 8 27] (.seq (kr [xI 9 0] (.blk 0 (.loop (.seq (kr [xv 28 9,xv 29 2,xc2 30 147 (.t 29) (xi 60),bT 31 .lss 28 30] (kX 31 0)) (.seq (.blk 1 (kr [xm 34 2 3,xm 35 4 8,xo 36 (.call 425 [false,true] [.t 34,.t 35]),xS 4 8 36] (kr [xI 10 0] (.blk 2 (.loop (.seq (kr [xv 37 10,xa 38 1 8,xl 39 38,xe 40 39,bT 41 .lss 37 40] (kX 41 2)) (.seq (.blk 3 (.dreg (.take 0 (xm 44 2 3) (.take 1 (xm 45 4 8) (.only 2 [] (xv 46 10) (.only 3 [1] (xo 47 (.call 364 [true,false,false] [.t 45,.t 46,xi 40])) (.only 4 [0,3,1] (xo 48 (.call 425 [false,true] [.t 44,.t 47])) (.only 5 [0,1] (xS 4 8 48) (.done))))))))) (xr [xv 42 10,bI 43 .add 42 1,xv 10 43])))))))) (xr [xv 32 9,bI 33 .add 32 1,xv 9 33])))))) (kr [xI 11 0] (.seq (kr [xI 12 0] (.blk 4 (.loop (.seq (kr [xv 49 12,xa 50 1 8,xl 51 50,xe 52 51,bT 53 .lss 49 52] (kX 53 4)) (.seq (.blk 5 (xr [xv 56 11,xa 57 1 8,xl 58 57,xv 59 12,xD 60 4 58 59,xa 61 3 60,xl 62 61,bI 63 .neq 62 0,xc1 64 85 (.t 63),bT 65 .add 56 64,xv 11 65])) (xr [xv 54 12,bI 55 .add 54 1,xv 12 55])))))) (kR [xm 66 4 8,xv 67 11,xS 4 6 66,xv 7 67]))))))⟩
def m404:MFn:=⟨58,[.cell 6 4 true,.t 7],kr [xb 3 0,xb 4 1,xo 6 (.alloc [.nil,.nil,.nil,.nil]),xI 7 0] (.seq (kr [xm 14 2 3,xm 15 4 4,xc2 16 426 (.t 14) (.t 15),xN 17 16] (kF 17 [xo 18 (.build [.nil,.nil,.nil,.nil] []),xS 4 6 18,xI 7 0])) (kr [xm 19 4 4,xc1 20 358 (.t 19),xo 8 (.alloc [.nil,.nil,.nil,.nil]),xS 4 8 20] (.seq (kr [xI 9 0] (.blk 0 (.loop (.seq (kr [xv 21 9,xv 22 2,bT 23 .lss 21 22,xv 24 23,yv 25 9 24,yI 26 .lss 25 60 24,xP 27 24 26] (kX 27 0)) (.seq (.blk 1 (kr [xm 30 2 3,xo 31 (.call 427 [true,false] [.t 8,.t 30])] (kr [xa 32 1 8,xl 33 32,xe 34 33,xI 35 0] (.blk 2 (.loop (kr [bT 36 .lss 35 34] (.seq (kX 36 2) (.seq (.blk 3 (kr [xv 37 35,xv 10 37] (kr [xv 38 10,xo 39 (.call 346 [true,false,false] [.t 8,.t 38,xi 40])] (xr [xm 40 2 3,xo 41 (.call 427 [true,false] [.t 8,.t 40])])))) (xr [bI 42 .add 35 1,xv 35 42]))))))))) (xr [xv 28 9,bI 29 .add 28 1,xv 9 29])))))) (kr [xI 11 0] (.seq (kr [xa 43 1 8,xl 44 43,xe 45 44,xI 46 0] (.blk 4 (.loop (kr [bT 47 .lss 46 45] (.seq (kX 47 4) (.seq (.blk 5 (kr [xD 48 4 44 46,xm 49 4 48,xo 13 (.alloc [.int .i64 0,.nil,.nil,.int .i64 0]),xS 4 13 49] (kr [xa 50 3 13,xl 51 50,bI 52 .neq 51 0] (.cond 52 (xr [xv 53 11,bI 54 .add 53 1,xv 11 54]) (.skip))))) (xr [bI 55 .add 46 1,xv 46 55]))))))) (kR [xm 56 4 8,xv 57 11,xS 4 6 56,xv 7 57]))))))⟩
def rL (p:wV) (M:qK):qK:=fF p M.cores.length 4 M
def fY (p:wV) (M:qK) (i:Nat):qK:=rL p (vA (vG 40) M i)
def cG (p:wV) (l:List Nat) (M:qK):qK:=l.foldl (fY p) M
def nG (p:wV) (n:Nat):Nat→qK→qK
 | 0,M=>M
 | k+1,M=>nG p n k (cG p (List.range n) (rL p M))
theorem qBz (p:wV) {M:qK} (h:qX M=true):qX (rL p M)=true∧(rL p M).cores.length=M.cores.length:=qB3 p _ 4 h
theorem qAg (p:wV) {M:qK} (i:Nat) (h:qX M=true):qX (fY p M i)=true∧(fY p M i).cores.length=M.cores.length:=by
 have h1:=oE (vG 40) (i:Int) h
 have h2:=(qE8 (vG 40) M (i:Int)).1
 have h3:=qBz p h1
 exact ⟨h3.1,by unfold fY; rw [h3.2,h2]⟩
theorem qKa (p:wV) :∀(l:List Nat) {M:qK},qX M=true→qX (cG p l M)=true∧(cG p l M).cores.length=M.cores.length
 | [],M,h=>⟨h,rfl⟩
 | i::l,M,h=>by
  have h1:=qAg p i h
  have h2:=qKa p l h1.1
  exact ⟨h2.1,h2.2.trans h1.2⟩
theorem qS5 (p:wV) (n:Nat) :∀(k:Nat) {M:qK},qX M=true→qX (nG p n k M)=true∧(nG p n k M).cores.length=M.cores.length
 | 0,M,h=>⟨h,rfl⟩
 | k+1,M,h=>by
  have h1:=qBz p h
  have h2:=qKa p (List.range n) h1.1
  have h3:=qS5 p n k h2.1
  exact ⟨h3.1,by show (nG p n k _).cores.length=_; rw [h3.2,h2.2,h1.2]⟩
def gB (M:qK):Nat→Nat
 | 0=>0
 | k+1=>gB M k+(if (qJ M k).st=0 then 0 else 1)
theorem pS (M:qK) :∀k,gB M k≤k
 | 0=>Nat.le_refl _
 | k+1=>by
  have:=pS M k
  unfold gB
  split<;>omega
def nF (rounds:Int):Nat:=(min rounds 60).toNat
def aW (p:wV) (m:qK) (rounds:Int):qK×Nat :=
 if qX m&&decide (m.cores.length=p.bods.length) then (nG p m.cores.length (nF rounds) m,gB (nG p m.cores.length (nF rounds) m) m.cores.length) else (iY,0)
theorem qBs (p:wV) (m:qK) (hp:zX p) (h:qX m=true):qZ Tryz.prog num 427 [.ptr 0 0 0,.agg (vC .bw p)] [(0,some (4,[qN .own m]),some (4,[qN .own (rL p m)]))] (.sl .own 1 (wK (qB2 p m.cores.length 4 (m,[])).2)):=qEf p m hp h
theorem qEb (p:wV) (m:qK) (hp:zX p) (h:qX m=true):qZ Tryz.prog num 425 [.agg (vC .bw p),iC m] (tF m) (.agg (qN .own (rL p m))):=qH0 p m hp h
theorem qJ4 (p:wV) (m:qK) (rounds:Int) (hp:zX p) (hm:aG m):qZ Tryz.prog num 404 [.agg (vC .bw p),.agg (qN .bw m),.int .i64 rounds] [] (.tup [.agg (qN .own (aW p m rounds).1),.int .i64 (aW p m rounds).2]):=by
 refine EN m404 Tryz.func27 ?_
 unfold m404
 simp only [go_sem,seval]
 refine CA [] (qDz p m hm) ?_
 try simp only [go_sem,seval]
 cases hok:(qX m&&decide (m.cores.length=p.bods.length))
 ·have hr:aW p m rounds=(iY,0):=by unfold aW; rw [hok]; rfl
  rw [hr]
  try simp only [go_sem,seval,hok]
  apply wN (by simp)
  ·exact Sub.refl _
  ·simp [-List.drop_one,-gD,qN,iY]<;>(first | rfl | exact ⟨rfl,rfl⟩ | exact ⟨rfl,rfl,rfl⟩ | skip)
 have hr:aW p m rounds=(nG p m.cores.length (nF rounds) m,gB (nG p m.cores.length (nF rounds) m) m.cores.length):=by unfold aW; rw [hok]; rfl
 rw [hr]
 have hMo:qX m=true:=by simp only [Bool.and_eq_true] at hok; exact hok.1
 have hM0:=(wT m).1 hMo
 have hc0:=hM0.cores
 have hn4:=hM0.n4
 try simp only [go_sem,seval,hok]
 refine CA [] (rQ m hm) ?_
 try simp only [go_sem,seval]
 clear hr hok
 generalize hn:m.cores.length=n at *
 have hR:(nF rounds:Int)≤60∧((nF rounds:Int)≤rounds∨nF rounds=0)∧(rounds≤nF rounds∨(nF rounds:Int)=60):=by unfold nF; omega
 generalize nF rounds=R at *
 refine wC (ι:=Nat×qK) (fun q=>.mk [(2,.int .i64 rounds),(3,.ptr 10 0 0),(6,.ptr 12 0 0),(8,.ptr 13 0 0),(9,.int .i64 q.1)] [(10,2,[vC .bw p]),(12,4,[[.nil,.nil,.nil,.nil]]),(13,4,[qN .own q.2])] 14) (fun q=>q.1≤R∧qX q.2=true∧q.2.cores.length=n∧nG p n (R-q.1) q.2=nG p n R m) (fun q=>R-q.1) (0,m) ⟨by simp,hMo,hn,rfl⟩ ?_ ?_
 ·refine Sub.trans (Sub.fold1 17 0 13 rfl (by simp [-gD]<;>omega) rfl (by decide) (by decide) rfl) ?_
  simp only [fS,fS2,qA,qC]
  refine Sub.trans (Sub.fold1 17 1 14 rfl (by simp [-gD]<;>omega) rfl (by decide) (by decide) rfl) ?_
  simp only [fS,fS2,qA,qC]
  refine Sub.trans (Sub.fold1 17 2 15 rfl (by simp [-gD]<;>omega) rfl (by decide) (by decide) rfl) ?_
  simp only [fS,fS2,qA,qC]
  refine Sub.trans (Sub.fold1 17 3 16 rfl (by simp [-gD]<;>omega) rfl (by decide) (by decide) rfl) ?_
  simp only [fS,fS2,qA,qC]
  refine Sub.shape [] (fun n=>if n=13 then 17 else n) (by omega) ?_ ?_ ?_ ?_<;>simp [qP]
  all_goals exact fun e=>absurd hn e
 ·rintro ⟨k,M⟩ ⟨hk,hMk,hlen,he⟩
  simp only at hk hMk hlen he
  by_cases hkR:k<R
  case neg =>
   obtain rfl:k=R:=by omega
   have he':M=nG p n k m:=by rw [←he,Nat.sub_self]; rfl
   rw [←he']
   have hM:=(wT M).1 hMk
   have hc1:=hM.cores
   have hn41:=hM.n4
   clear he' he
   subst hlen
   by_cases h1:(k:Int)<rounds
   ·have h3 :¬(k:Int)<60:=by omega
    simp only [go_sem,seval,h1,h3]
    refine wC (ι:=Nat) (fun i=>.mk [(6,.ptr 12 0 0),(8,.ptr 13 0 0),(11,.int .i64 (gB M i)),(44,.ns 14 0 M.cores.length),(45,.int .i64 M.cores.length),(46,.int .i64 i)] [(12,4,[[.nil,.nil,.nil,.nil]]),(13,4,[[.sl .own 1 (codes .own M.codes),.ns 14 0 M.cores.length,.sl .own 1 (yP .own M.mem.cells),.sl .own 2 (jG M.tr)]]),(14,4,cores .own M.cores)] 15) (fun i=>i≤M.cores.length) (fun i=>M.cores.length-i) 0 (by simp) ?_ ?_
    ·refine Sub.link id (by omega) ?_ ?_ ?_<;>(simp [qP,qIp,okB,pX,zZ,xU,jK,gB]; done)
    ·rintro i hi
     simp only [go_sem,seval]
     refine qS (fun hc=>?_) (fun hc=>?_)
     ·simp only [decide_eq_true_eq] at hc
      have hi':i<M.cores.length:=by omega
      have hcg:=yL .own M.cores i hi'
      have hcself:(cores .own M.cores).set i [.int .i64 (qJ M i).at_,.sl .own 1 (wK (qJ M i).regs),.sl .own 1 (wK (qJ M i).view),.int .i64 (qJ M i).st]=cores .own M.cores:=by rw [show qJ M i=M.cores.getD i default from rfl,←hcg,wI _ _ _ (by rw [yY]; exact hi')]
      have hkk:M.cores.getD i default=qJ M i:=rfl
      rw [hkk] at hcg
      have ho:=pS M i
      by_cases hst:(qJ M i).st=0
      ·have e:gB M (i+1)=gB M i:=by
        show gB M i+_=_
        rw [if_pos hst]
        rfl
       simp only [go_sem,seval,qR (i:=i) (by omega),hcg,hst]
       repeat refine K ?_
       refine qT (i+1) ?_ hi' (by omega)
       rw [e]
       rw [hst] at hcself
       refine FA 14 1 15 ?_
       simp only [fS,fS2,fS2,qA,qC]
       refine FA 14 2 16 ?_
       simp only [fS,fS2,fS2,qA,qC,hcself]
       refine Sub.link id (by omega) ?_ ?_ ?_<;>(simp [qP,qIp,okB,pX,zZ,xU,jK]; done)
      ·have e:gB M (i+1)=gB M i+1:=by
        show gB M i+_=_
        rw [if_neg hst]
       simp only [go_sem,seval,qR (i:=i) (by omega),qR (i:=gB M i) (by omega),hcg,hst]
       repeat refine K ?_
       refine qT (i+1) ?_ hi' (by omega)
       rw [e]
       refine FA 14 1 15 ?_
       simp only [fS,fS2,fS2,qA,qC]
       refine FA 14 2 16 ?_
       simp only [fS,fS2,fS2,qA,qC,hcself]
       refine Sub.link id (by omega) ?_ ?_ ?_<;>(simp [qP,qIp,okB,pX,zZ,xU,jK]; done)
     ·simp only [decide_eq_false_iff_not] at hc
      obtain rfl:i=M.cores.length:=by omega
      simp only [go_sem,seval]
      apply wN (by simp)
      ·exact Sub.refl _
      ·simp [-List.drop_one,-gD,qN]<;>(first | rfl | exact ⟨rfl,rfl⟩ | exact ⟨rfl,rfl,rfl⟩ | skip)
   ·simp only [go_sem,seval,h1]
    refine wC (ι:=Nat) (fun i=>.mk [(6,.ptr 12 0 0),(8,.ptr 13 0 0),(11,.int .i64 (gB M i)),(44,.ns 14 0 M.cores.length),(45,.int .i64 M.cores.length),(46,.int .i64 i)] [(12,4,[[.nil,.nil,.nil,.nil]]),(13,4,[[.sl .own 1 (codes .own M.codes),.ns 14 0 M.cores.length,.sl .own 1 (yP .own M.mem.cells),.sl .own 2 (jG M.tr)]]),(14,4,cores .own M.cores)] 15) (fun i=>i≤M.cores.length) (fun i=>M.cores.length-i) 0 (by simp) ?_ ?_
    ·refine Sub.link id (by omega) ?_ ?_ ?_<;>(simp [qP,qIp,okB,pX,zZ,xU,jK,gB]; done)
    ·rintro i hi
     simp only [go_sem,seval]
     refine qS (fun hc=>?_) (fun hc=>?_)
     ·simp only [decide_eq_true_eq] at hc
      have hi':i<M.cores.length:=by omega
      have hcg:=yL .own M.cores i hi'
      have hcself:(cores .own M.cores).set i [.int .i64 (qJ M i).at_,.sl .own 1 (wK (qJ M i).regs),.sl .own 1 (wK (qJ M i).view),.int .i64 (qJ M i).st]=cores .own M.cores:=by rw [show qJ M i=M.cores.getD i default from rfl,←hcg,wI _ _ _ (by rw [yY]; exact hi')]
      have hkk:M.cores.getD i default=qJ M i:=rfl
      rw [hkk] at hcg
      have ho:=pS M i
      by_cases hst:(qJ M i).st=0
      ·have e:gB M (i+1)=gB M i:=by
        show gB M i+_=_
        rw [if_pos hst]
        rfl
       simp only [go_sem,seval,qR (i:=i) (by omega),hcg,hst]
       repeat refine K ?_
       refine qT (i+1) ?_ hi' (by omega)
       rw [e]
       rw [hst] at hcself
       refine FA 14 1 15 ?_
       simp only [fS,fS2,fS2,qA,qC]
       refine FA 14 2 16 ?_
       simp only [fS,fS2,fS2,qA,qC,hcself]
       refine Sub.link id (by omega) ?_ ?_ ?_<;>(simp [qP,qIp,okB,pX,zZ,xU,jK]; done)
      ·have e:gB M (i+1)=gB M i+1:=by
        show gB M i+_=_
        rw [if_neg hst]
       simp only [go_sem,seval,qR (i:=i) (by omega),qR (i:=gB M i) (by omega),hcg,hst]
       repeat refine K ?_
       refine qT (i+1) ?_ hi' (by omega)
       rw [e]
       refine FA 14 1 15 ?_
       simp only [fS,fS2,fS2,qA,qC]
       refine FA 14 2 16 ?_
       simp only [fS,fS2,fS2,qA,qC,hcself]
       refine Sub.link id (by omega) ?_ ?_ ?_<;>(simp [qP,qIp,okB,pX,zZ,xU,jK]; done)
     ·simp only [decide_eq_false_iff_not] at hc
      obtain rfl:i=M.cores.length:=by omega
      simp only [go_sem,seval]
      apply wN (by simp)
      ·exact Sub.refl _
      ·simp [-List.drop_one,-gD,qN]<;>(first | rfl | exact ⟨rfl,rfl⟩ | exact ⟨rfl,rfl,rfl⟩ | skip)
  have h1:(k:Int)<rounds:=by omega
  have h2:(k:Int)<60:=by omega
  rw [mX hkR] at he
  have f1:=qBz p hMk
  have hI:=qBs p M hp hMk
  have hef:nG p n (R-(k+1)) (cG p (List.range n) (rL p M))=nG p n R m:=he
  generalize rL p M=M0 at *
  simp only [go_sem,seval,h1,h2]
  refine CA [(0,13)] (hI) ?_
  try simp only [go_sem,seval]
  have hn0:M0.cores.length=n:=by omega
  try simp only [go_sem,seval,hn0]
  refine wC (ι:=Nat×qK) (fun q=>.mk [(2,.int .i64 rounds),(3,.ptr 10 0 0),(6,.ptr 12 0 0),(8,.ptr 13 0 0),(9,.int .i64 k),(34,.int .i64 n),(35,.int .i64 q.1)] [(10,2,[vC .bw p]),(12,4,[[.nil,.nil,.nil,.nil]]),(13,4,[qN .own q.2])] 14) (fun q=>q.1≤n∧qX q.2=true∧q.2.cores.length=n∧cG p ((List.range n).drop q.1) q.2=cG p (List.range n) M0) (fun q=>n-q.1) (0,M0) ⟨by simp,f1.1,hn0,rfl⟩ ?_ ?_
  ·refine Sub.trans (Sub.fold1 13 1 15 rfl (by simp [-gD]<;>omega) rfl (by decide) (by decide) rfl) ?_
   simp only [fS,fS2,qA,qC]
   refine Sub.shape [] id (by omega) ?_ ?_ ?_ ?_<;>simp [qP]
   all_goals exact fun e=>absurd hn0 e
  ·rintro ⟨j,M1⟩ ⟨hj,hM1,hlen1,he1⟩
   simp only at hj hM1 hlen1 he1
   simp only [go_sem,seval]
   refine qS (fun hc1=>?_) (fun hc1=>?_)
   ·simp only [decide_eq_true_eq] at hc1
    have hj':j<n:=by omega
    rw [oK hj'] at he1
    have a1:=oE (vG 40) (j:Int) hM1
    have a2:=qAg p j hM1
    have hA:=qH9 M1 j 40 hM1
    have hB:qZ Tryz.prog num 427 _ _ _:=qBs p (vA (vG 40) M1 j) hp a1
    have hef1:cG p ((List.range n).drop (j+1)) (fY p M1 j)=cG p (List.range n) M0:=he1
    change qZ Tryz.prog num 427 [.ptr 0 0 0,.agg (vC .bw p)] [(0,some (4,[qN .own (vA (vG 40) M1 j)]),some (4,[qN .own (fY p M1 j)]))] _ at hB
    generalize fY p M1 j=M2 at *
    generalize vA (vG 40) M1 j=M3 at *
    simp only [go_sem,seval,qR (i:=j) (by omega)]
    refine CA [(0,13)] (hA) ?_
    try simp only [go_sem,seval]
    refine CA [(0,13)] (hB) ?_
    try simp only [go_sem,seval]
    try simp only [go_sem,seval,qR (i:=j) (by omega)]
    refine qT (j+1,M2) ?_ ⟨hj',a2.1,by rw [a2.2]; exact hlen1,hef1⟩ (by simp only; omega)
    refine Sub.shape [] id (by omega) ?_ ?_ ?_ ?_<;>simp [qP]
   ·simp only [decide_eq_false_iff_not] at hc1
    obtain rfl:j=n:=by omega
    have he1':M1=cG p (List.range j) M0:=by
     rw [←he1,List.drop_eq_nil_of_le (by simp)]
     rfl
    simp only [go_sem,seval,qR (i:=k) (by omega)]
    refine qT (k+1,M1) ?_ ⟨hkR,hM1,hlen1,by rw [he1']; exact hef⟩ (by simp only; omega)
    refine Sub.shape [] id (by omega) ?_ ?_ ?_ ?_<;>simp [qP]
theorem qIl (p:wV) (m:qK) (rounds:Int) (hp:zX p) (hm:aG m):qZ Tryz.prog num 403 [.agg (vC .bw p),.agg (qN .bw m),.int .i64 rounds] [] (.tup [.agg (qN .own (aW p m rounds).1),.int .i64 (aW p m rounds).2]):=by
 refine EN m403 Tryz.func39 ?_
 unfold m403
 simp only [go_sem,seval]
 refine CA [] (xH m hm) ?_
 try simp only [go_sem,seval]
 cases hmk:qX m
 ·have hr:aW p m rounds=(iY,0):=by unfold aW; rw [hmk]; rfl
  rw [hr]
  try simp only [go_sem,seval,hmk]
  apply wN (by simp)
  ·exact Sub.refl _
  ·simp [-List.drop_one,-gD,qN,iY]<;>(first | rfl | exact ⟨rfl,rfl⟩ | exact ⟨rfl,rfl,rfl⟩ | skip)
 by_cases hl:m.cores.length=p.bods.length
 case neg =>
  have hl' :¬(m.cores.length:Int)=p.bods.length:=by omega
  have hr:aW p m rounds=(iY,0):=by unfold aW; rw [hmk,decide_eq_false hl]; rfl
  rw [hr]
  try simp only [go_sem,seval,hmk,hl']
  apply wN (by simp)
  ·exact Sub.refl _
  ·simp [-List.drop_one,-gD,qN,iY]<;>(first | rfl | exact ⟨rfl,rfl⟩ | exact ⟨rfl,rfl,rfl⟩ | skip)
 have hl':(m.cores.length:Int)=p.bods.length:=by omega
 have hr:aW p m rounds=(nG p m.cores.length (nF rounds) m,gB (nG p m.cores.length (nF rounds) m) m.cores.length):=by unfold aW; rw [hmk,decide_eq_true hl]; rfl
 rw [hr]
 have hM0:=(wT m).1 hmk
 have hc0:=hM0.cores
 have hn4:=hM0.n4
 try simp only [go_sem,seval,hmk,hl']
 refine CA [] (qD6 m hm) ?_
 try simp only [go_sem,seval]
 clear hr hl hl'
 generalize hn:m.cores.length=n at *
 have hR:(nF rounds:Int)≤60∧((nF rounds:Int)≤rounds∨nF rounds=0)∧(rounds≤nF rounds∨(nF rounds:Int)=60):=by unfold nF; omega
 generalize nF rounds=R at *
 refine wC (ι:=Nat×qK) (fun q=>.mk [(2,.int .i64 rounds),(3,.ptr 10 0 0),(6,.ptr 12 0 0),(8,.ptr 13 0 0),(9,.int .i64 q.1)] [(10,2,[vC .bw p]),(12,4,[[.nil,.nil,.nil,.nil]]),(13,4,[qN .own q.2])] 14) (fun q=>q.1≤R∧qX q.2=true∧q.2.cores.length=n∧nG p n (R-q.1) q.2=nG p n R m) (fun q=>R-q.1) (0,m) ⟨by simp,hmk,hn,rfl⟩ ?_ ?_
 ·refine Sub.trans (Sub.fold1 17 0 13 rfl (by simp [-gD]<;>omega) rfl (by decide) (by decide) rfl) ?_
  simp only [fS,fS2,qA,qC]
  refine Sub.trans (Sub.fold1 17 1 14 rfl (by simp [-gD]<;>omega) rfl (by decide) (by decide) rfl) ?_
  simp only [fS,fS2,qA,qC]
  refine Sub.trans (Sub.fold1 17 2 15 rfl (by simp [-gD]<;>omega) rfl (by decide) (by decide) rfl) ?_
  simp only [fS,fS2,qA,qC]
  refine Sub.trans (Sub.fold1 17 3 16 rfl (by simp [-gD]<;>omega) rfl (by decide) (by decide) rfl) ?_
  simp only [fS,fS2,qA,qC]
  refine Sub.shape [] (fun n=>if n=13 then 17 else n) (by omega) ?_ ?_ ?_ ?_<;>simp [qP]
  all_goals exact fun e=>absurd hn e
 ·rintro ⟨k,M⟩ ⟨hk,hMk,hlen,he⟩
  simp only at hk hMk hlen he
  simp only [go_sem,seval]
  refine CA [] (qOh rounds 60) ?_
  try simp only [go_sem,seval]
  by_cases hkR:k<R
  case neg =>
   obtain rfl:k=R:=by omega
   have he':M=nG p n k m:=by rw [←he,Nat.sub_self]; rfl
   rw [←he']
   have hM:=(wT M).1 hMk
   have hc1:=hM.cores
   have hn41:=hM.n4
   clear he' he
   subst hlen
   have h1 :¬(k:Int)<(if rounds<60 then rounds else 60):=by split<;>omega
   try simp only [go_sem,seval,h1]
   refine wC (ι:=Nat) (fun i=>.mk [(6,.ptr 12 0 0),(8,.ptr 13 0 0),(11,.int .i64 (gB M i)),(12,.int .i64 i)] [(12,4,[[.nil,.nil,.nil,.nil]]),(13,4,[qN .own M])] 14) (fun i=>i≤M.cores.length) (fun i=>M.cores.length-i) 0 (by simp) ?_ ?_
   ·refine Sub.shape [] id (by omega) ?_ ?_ ?_ ?_<;>simp [qP]
    all_goals simp [gB]
   ·rintro i hi
    simp only [go_sem,seval]
    refine qS (fun hc=>?_) (fun hc=>?_)
    ·simp only [decide_eq_true_eq] at hc
     have hi':i<M.cores.length:=by omega
     have hcg:=yL .own M.cores i hi'
     have hkk:M.cores.getD i default=qJ M i:=rfl
     rw [hkk] at hcg
     have ho:=pS M i
     by_cases hst:(qJ M i).st=0
     ·have e:gB M (i+1)=gB M i:=by
       show gB M i+_=_
       rw [if_pos hst]
       rfl
      simp only [go_sem,seval,hcg,hst]
      repeat refine K ?_
      refine CA [] (lB false) ?_
      try simp only [go_sem,seval]
      have hb0:vQ false=0:=rfl
      have hw0:IntKind.i64.wrap ((gB M i:Int))=gB M i:=wM (by omega) (by omega)
      try simp only [go_sem,seval,qR (i:=i) (by omega),hb0,hw0,Int.add_zero]
      refine qT (i+1) ?_ hi' (by omega)
      rw [e]
      refine Sub.trans (Sub.fold1 13 1 14 rfl (by simp [-gD]<;>omega) rfl (by decide) (by decide) rfl) ?_
      simp only [fS,fS2,qA,qC]
      refine Sub.shape [] id (by omega) ?_ ?_ ?_ ?_<;>simp [qP]
     ·have e:gB M (i+1)=gB M i+1:=by
       show gB M i+_=_
       rw [if_neg hst]
      simp only [go_sem,seval,hcg,hst]
      repeat refine K ?_
      refine CA [] (lB true) ?_
      try simp only [go_sem,seval]
      have hb1:vQ true=1:=rfl
      try simp only [go_sem,seval,qR (i:=i) (by omega),hb1,qR (i:=gB M i) (by omega)]
      refine qT (i+1) ?_ hi' (by omega)
      rw [e]
      refine Sub.trans (Sub.fold1 13 1 14 rfl (by simp [-gD]<;>omega) rfl (by decide) (by decide) rfl) ?_
      simp only [fS,fS2,qA,qC]
      refine Sub.shape [] id (by omega) ?_ ?_ ?_ ?_<;>simp [qP]
    ·simp only [decide_eq_false_iff_not] at hc
     obtain rfl:i=M.cores.length:=by omega
     simp only [go_sem,seval]
     apply wN (by simp)
     ·exact Sub.refl _
     ·simp [-List.drop_one,-gD,qN]<;>(first | rfl | exact ⟨rfl,rfl⟩ | exact ⟨rfl,rfl,rfl⟩ | skip)
  have h1:(k:Int)<(if rounds<60 then rounds else 60):=by split<;>omega
  rw [mX hkR] at he
  have f1:=qBz p hMk
  have hI:=qEb p M hp hMk
  have hef:nG p n (R-(k+1)) (cG p (List.range n) (rL p M))=nG p n R m:=he
  generalize rL p M=M0 at *
  try simp only [go_sem,seval,h1]
  refine CA [(0,14),(1,15),(2,16),(3,17)] (hI) ?_
  try simp only [go_sem,seval]
  have hn0:M0.cores.length=n:=by omega
  refine wC (ι:=Nat×qK) (fun q=>.mk [(2,.int .i64 rounds),(3,.ptr 10 0 0),(6,.ptr 12 0 0),(8,.ptr 13 0 0),(9,.int .i64 k),(10,.int .i64 q.1)] [(10,2,[vC .bw p]),(12,4,[[.nil,.nil,.nil,.nil]]),(13,4,[qN .own q.2])] 14) (fun q=>q.1≤n∧qX q.2=true∧q.2.cores.length=n∧cG p ((List.range n).drop q.1) q.2=cG p (List.range n) M0) (fun q=>n-q.1) (0,M0) ⟨by simp,f1.1,hn0,rfl⟩ ?_ ?_
  ·refine Sub.trans (Sub.fold1 13 0 18 rfl (by simp [-gD]<;>omega) rfl (by decide) (by decide) rfl) ?_
   simp only [fS,fS2,qA,qC]
   refine Sub.trans (Sub.fold1 13 1 19 rfl (by simp [-gD]<;>omega) rfl (by decide) (by decide) rfl) ?_
   simp only [fS,fS2,qA,qC]
   refine Sub.trans (Sub.fold1 13 2 20 rfl (by simp [-gD]<;>omega) rfl (by decide) (by decide) rfl) ?_
   simp only [fS,fS2,qA,qC]
   refine Sub.trans (Sub.fold1 13 3 21 rfl (by simp [-gD]<;>omega) rfl (by decide) (by decide) rfl) ?_
   simp only [fS,fS2,qA,qC]
   refine Sub.shape [] id (by omega) ?_ ?_ ?_ ?_<;>simp [qP]
  ·rintro ⟨j,M1⟩ ⟨hj,hM1,hlen1,he1⟩
   simp only at hj hM1 hlen1 he1
   simp only [go_sem,seval,hlen1]
   refine qS (fun hc1=>?_) (fun hc1=>?_)
   ·simp only [decide_eq_true_eq] at hc1
    have hj':j<n:=by omega
    rw [oK hj'] at he1
    have a1:=oE (vG 40) (j:Int) hM1
    have a2:=qAg p j hM1
    have hA:=qEc M1 j 40 hM1 (by omega)
    have hB:qZ Tryz.prog num 425 [.agg (vC .bw p),iC (vA (vG 40) M1 j)] (tF (vA (vG 40) M1 j)) (.agg (qN .own (fY p M1 j))):=qEb p (vA (vG 40) M1 j) hp a1
    have hef1:cG p ((List.range n).drop (j+1)) (fY p M1 j)=cG p (List.range n) M0:=he1
    generalize fY p M1 j=M2 at *
    generalize vA (vG 40) M1 j=M3 at *
    simp only [go_sem,seval,hlen1]
    repeat refine K ?_
    refine DA [(0,15),(1,14),(2,16),(3,17)] (hA) ?_
    try simp only [go_sem,seval]
    refine DA [(0,18),(1,19),(2,20),(3,21)] (hB) ?_
    try simp only [go_sem,seval]
    try simp only [go_sem,seval,qR (i:=j) (by omega)]
    refine qT (j+1,M2) ?_ ⟨hj',a2.1,by rw [a2.2]; exact hlen1,hef1⟩ (by simp only; omega)
    refine Sub.trans (Sub.fold1 13 0 22 rfl (by simp [-gD]<;>omega) rfl (by decide) (by decide) rfl) ?_
    simp only [fS,fS2,qA,qC]
    refine Sub.trans (Sub.fold1 13 1 23 rfl (by simp [-gD]<;>omega) rfl (by decide) (by decide) rfl) ?_
    simp only [fS,fS2,qA,qC]
    refine Sub.trans (Sub.fold1 13 2 24 rfl (by simp [-gD]<;>omega) rfl (by decide) (by decide) rfl) ?_
    simp only [fS,fS2,qA,qC]
    refine Sub.trans (Sub.fold1 13 3 25 rfl (by simp [-gD]<;>omega) rfl (by decide) (by decide) rfl) ?_
    simp only [fS,fS2,qA,qC]
    refine Sub.shape [] id (by omega) ?_ ?_ ?_ ?_<;>simp [qP]
   ·simp only [decide_eq_false_iff_not] at hc1
    obtain rfl:j=n:=by omega
    have he1':M1=cG p (List.range j) M0:=by
     rw [←he1,List.drop_eq_nil_of_le (by simp)]
     rfl
    simp only [go_sem,seval,qR (i:=k) (by omega)]
    refine qT (k+1,M1) ?_ ⟨hkR,hM1,hlen1,by rw [he1']; exact hef⟩ (by simp only; omega)
    refine Sub.trans (Sub.fold1 13 1 14 rfl (by simp [-gD]<;>omega) rfl (by decide) (by decide) rfl) ?_
    simp only [fS,fS2,qA,qC]
    refine Sub.shape [] id (by omega) ?_ ?_ ?_ ?_<;>simp [qP]
    all_goals exact fun e=>absurd hlen1 e
end Go.Sep
