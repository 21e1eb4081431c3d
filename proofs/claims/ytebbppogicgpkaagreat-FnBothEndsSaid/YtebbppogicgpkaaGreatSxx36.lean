/- Contracts of functions. -/
import Derived.Test.YtebbppogicgpkaaGreatSxx34
import Derived.Test.YtebbppogicgpkaaGreatSxx39
namespace Go.Sep
set_option maxHeartbeats 16000000
open Go.Proofs
set_option linter.unusedSimpArgs false
set_option linter.unusedVariables false
set_option maxRecDepth 100000
open Nat renaming reduceAdd → qA, reduceMul → qB, reduceEqDiff → qC, reduceBEq → qD
open Int renaming reduceToNat → qE, reduceEq → qF, reduceLT → qG, reduceLE → qH
open List renaming getD_eq_getElem?_getD → gD
def m404:MFn:=⟨58,[.cell 6 4 true,.t 7],kr [xb 3 0,xb 4 1,xo 6 (.alloc [.nil,.nil,.nil,.nil]),xI 7 0] (.seq (kr [xm 14 2 3,xm 15 4 4,xc2 16 426 (.t 14) (.t 15),xN 17 16] (kF 17 [xo 18 (.build [.nil,.nil,.nil,.nil] []),xS 4 6 18,xI 7 0])) (kr [xm 19 4 4,xc1 20 358 (.t 19),xo 8 (.alloc [.nil,.nil,.nil,.nil]),xS 4 8 20] (.seq (kr [xI 9 0] (.blk 0 (.loop (.seq (kr [xv 21 9,xv 22 2,bT 23 .lss 21 22,xv 24 23,yv 25 9 24,yI 26 .lss 25 60 24,xP 27 24 26] (kX 27 0)) (.seq (.blk 1 (kr [xm 30 2 3,xo 31 (.call 427 [true,false] [.t 8,.t 30])] (kr [xa 32 1 8,xl 33 32,xe 34 33,xI 35 0] (.blk 2 (.loop (kr [bT 36 .lss 35 34] (.seq (kX 36 2) (.seq (.blk 3 (kr [xv 37 35,xv 10 37] (kr [xv 38 10,xo 39 (.call 346 [true,false,false] [.t 8,.t 38,xi 40])] (xr [xm 40 2 3,xo 41 (.call 427 [true,false] [.t 8,.t 40])])))) (xr [bI 42 .add 35 1,xv 35 42]))))))))) (xr [xv 28 9,bI 29 .add 28 1,xv 9 29])))))) (kr [xI 11 0] (.seq (kr [xa 43 1 8,xl 44 43,xe 45 44,xI 46 0] (.blk 4 (.loop (kr [bT 47 .lss 46 45] (.seq (kX 47 4) (.seq (.blk 5 (kr [xD 48 4 44 46,xm 49 4 48,xo 13 (.alloc [.int .i64 0,.nil,.nil,.int .i64 0]),xS 4 13 49] (kr [xa 50 3 13,xl 51 50,bI 52 .neq 51 0] (.cond 52 (xr [xv 53 11,bI 54 .add 53 1,xv 11 54]) (.skip))))) (xr [bI 55 .add 46 1,xv 46 55]))))))) (kR [xm 56 4 8,xv 57 11,xS 4 6 56,xv 7 57]))))))⟩
def qGu (p:wM) (M:qO):qO:=qD7 p M.cores.length 4 M
def oC (p:wM) (M:qO) (i:Nat):qO:=qGu p (gT (aT 40) M i)
def lR (p:wM) (l:List Nat) (M:qO):qO:=l.foldl (oC p) M
def qE3 (p:wM) (n:Nat):Nat→qO→qO
 | 0,M=>M
 | k+1,M=>qE3 p n k (lR p (List.range n) (qGu p M))
theorem qK3 (p:wM) {M:qO} (h:wP M=true):wP (qGu p M)=true∧(qGu p M).cores.length=M.cores.length:=qQc p _ 4 h
theorem qJz (p:wM) {M:qO} (i:Nat) (h:wP M=true):wP (oC p M i)=true∧(oC p M i).cores.length=M.cores.length:=by
 have h1:=qCd (aT 40) (i:Int) h
 have h2:=(qGn (aT 40) M (i:Int)).1
 have h3:=qK3 p h1
 exact ⟨h3.1,by unfold oC; rw [h3.2,h2]⟩
theorem qN8 (p:wM) :∀(l:List Nat) {M:qO},wP M=true→wP (lR p l M)=true∧(lR p l M).cores.length=M.cores.length
 | [],M,h=>⟨h,rfl⟩
 | i::l,M,h=>by
  have h1:=qJz p i h
  have h2:=qN8 p l h1.1
  exact ⟨h2.1,h2.2.trans h1.2⟩
theorem qVa (p:wM) (n:Nat) :∀(k:Nat) {M:qO},wP M=true→wP (qE3 p n k M)=true∧(qE3 p n k M).cores.length=M.cores.length
 | 0,M,h=>⟨h,rfl⟩
 | k+1,M,h=>by
  have h1:=qK3 p h
  have h2:=qN8 p (List.range n) h1.1
  have h3:=qVa p n k h2.1
  exact ⟨h3.1,by show (qE3 p n k _).cores.length=_; rw [h3.2,h2.2,h1.2]⟩
def cE (M:qO):Nat→Nat
 | 0=>0
 | k+1=>cE M k+(if (qJ M k).st=0 then 0 else 1)
theorem qJ0 (M:qO) :∀k,cE M k≤k
 | 0=>Nat.le_refl _
 | k+1=>by
  have:=qJ0 M k
  unfold cE
  split<;>omega
def qK0 (rounds:Int):Nat:=(min rounds 60).toNat
def nE (p:wM) (m:qO) (rounds:Int):qO×Nat :=
 if wP m&&decide (m.cores.length=p.bods.length) then (qE3 p m.cores.length (qK0 rounds) m,cE (qE3 p m.cores.length (qK0 rounds) m) m.cores.length) else (oV,0)
theorem qZb (p:wM) (m:qO) (rounds:Int):pB (nE p m rounds).1≤4000000:=by
 unfold nE
 split
 ·rename_i h
  simp only [Bool.and_eq_true] at h
  exact qGo (qVa p _ _ h.1).1
 ·decide
theorem qDz (p:wM) (m:qO) (hp:bF p) (h:wP m=true):qW Tryz.prog num 427 [.ptr 0 0 0,.agg (jF .bw p)] [(0,some (4,[qR .own m]),some (4,[qR .own (qGu p m)]))] (.sl .own 1 (wN (qD6 p m.cores.length 4 (m,[])).2)):=qRb p m hp h
theorem qM2 (p:wM) (m:qO) (rounds:Int) (hp:bF p) (hm:iQ m):qW Tryz.prog num 404 [.agg (jF .bw p),.agg (qR .bw m),.int .i64 rounds] [] (.tup [.agg (qR .own (nE p m rounds).1),.int .i64 (nE p m rounds).2]):=by
 refine EN m404 Tryz.func27 ?_
 unfold m404
 simp only [go_sem,seval]
 refine CA [] (qQb p m hm) ?_
 try simp only [go_sem,seval]
 cases hok:(wP m&&decide (m.cores.length=p.bods.length))
 ·have hr:nE p m rounds=(oV,0):=by unfold nE; rw [hok]; rfl
  rw [hr]
  try simp only [go_sem,seval,hok]
  apply wS (by simp)
  ·exact Sub.refl _
  ·simp [-List.drop_one,-gD,qR,oV]<;>(first | rfl | exact ⟨rfl,rfl⟩ | exact ⟨rfl,rfl,rfl⟩ | skip)
 have hr:nE p m rounds=(qE3 p m.cores.length (qK0 rounds) m,cE (qE3 p m.cores.length (qK0 rounds) m) m.cores.length):=by unfold nE; rw [hok]; rfl
 rw [hr]
 have hMo:wP m=true:=by simp only [Bool.and_eq_true] at hok; exact hok.1
 have hM0:=(yO m).1 hMo
 have hc0:=hM0.cores
 have hn4:=hM0.n4
 try simp only [go_sem,seval,hok]
 refine CA [] (qKm m hm) ?_
 try simp only [go_sem,seval]
 clear hr hok
 generalize hn:m.cores.length=n at *
 have hR:(qK0 rounds:Int)≤60∧((qK0 rounds:Int)≤rounds∨qK0 rounds=0)∧(rounds≤qK0 rounds∨(qK0 rounds:Int)=60):=by unfold qK0; omega
 generalize qK0 rounds=R at *
 refine qX (ι:=Nat×qO) (fun q=>.mk [(2,.int .i64 rounds),(3,.ptr 10 0 0),(6,.ptr 12 0 0),(8,.ptr 13 0 0),(9,.int .i64 q.1)] [(10,2,[jF .bw p]),(12,4,[[.nil,.nil,.nil,.nil]]),(13,4,[qR .own q.2])] 14) (fun q=>q.1≤R∧wP q.2=true∧q.2.cores.length=n∧qE3 p n (R-q.1) q.2=qE3 p n R m) (fun q=>R-q.1) (0,m) ⟨by simp,hMo,hn,rfl⟩ ?_ ?_
 ·refine Sub.trans (Sub.fold1 17 0 13 rfl (by simp [-gD]<;>omega) rfl (by decide) (by decide) rfl) ?_
  simp only [fS,fS2,qA,qC]
  refine Sub.trans (Sub.fold1 17 1 14 rfl (by simp [-gD]<;>omega) rfl (by decide) (by decide) rfl) ?_
  simp only [fS,fS2,qA,qC]
  refine Sub.trans (Sub.fold1 17 2 15 rfl (by simp [-gD]<;>omega) rfl (by decide) (by decide) rfl) ?_
  simp only [fS,fS2,qA,qC]
  refine Sub.trans (Sub.fold1 17 3 16 rfl (by simp [-gD]<;>omega) rfl (by decide) (by decide) rfl) ?_
  simp only [fS,fS2,qA,qC]
  refine Sub.shape [] (fun n=>if n=13 then 17 else n) (by omega) ?_ ?_ ?_ ?_<;>simp [qK]
  all_goals exact fun e=>absurd hn e
 ·rintro ⟨k,M⟩ ⟨hk,hMk,hlen,he⟩
  simp only at hk hMk hlen he
  by_cases hkR:k<R
  case neg =>
   obtain rfl:k=R:=by omega
   have he':M=qE3 p n k m:=by rw [←he,Nat.sub_self]; rfl
   rw [←he']
   have hM:=(yO M).1 hMk
   have hc1:=hM.cores
   have hn41:=hM.n4
   clear he' he
   subst hlen
   by_cases h1:(k:Int)<rounds
   ·have h3 :¬(k:Int)<60:=by omega
    simp only [go_sem,seval,h1,h3]
    refine qX (ι:=Nat) (fun i=>.mk [(6,.ptr 12 0 0),(8,.ptr 13 0 0),(11,.int .i64 (cE M i)),(44,.ns 14 0 M.cores.length),(45,.int .i64 M.cores.length),(46,.int .i64 i)] [(12,4,[[.nil,.nil,.nil,.nil]]),(13,4,[[.sl .own 1 (codes .own M.codes),.ns 14 0 M.cores.length,.sl .own 1 (jC .own M.mem.cells),.sl .own 2 (jK M.tr)]]),(14,4,cores .own M.cores)] 15) (fun i=>i≤M.cores.length) (fun i=>M.cores.length-i) 0 (by simp) ?_ ?_
    ·refine Sub.link id (by omega) ?_ ?_ ?_<;>(simp [qK,qLp,okB,pM,aN,xE,jQ,cE]; done)
    ·rintro i hi
     simp only [go_sem,seval]
     refine qL (fun hc=>?_) (fun hc=>?_)
     ·simp only [decide_eq_true_eq] at hc
      have hi':i<M.cores.length:=by omega
      have hcg:=jR .own M.cores i hi'
      have hcself:(cores .own M.cores).set i [.int .i64 (qJ M i).at_,.sl .own 1 (wN (qJ M i).regs),.sl .own 1 (wN (qJ M i).view),.int .i64 (qJ M i).st]=cores .own M.cores:=by rw [show qJ M i=M.cores.getD i default from rfl,←hcg,wR _ _ _ (by rw [jO]; exact hi')]
      have hkk:M.cores.getD i default=qJ M i:=rfl
      rw [hkk] at hcg
      have ho:=qJ0 M i
      by_cases hst:(qJ M i).st=0
      ·have e:cE M (i+1)=cE M i:=by
        show cE M i+_=_
        rw [if_pos hst]
        rfl
       simp only [go_sem,seval,qS (i:=i) (by omega),hcg,hst]
       repeat refine K ?_
       refine qT (i+1) ?_ hi' (by omega)
       rw [e]
       rw [hst] at hcself
       refine FA 14 1 15 ?_
       simp only [fS,fS2,fS2,qA,qC]
       refine FA 14 2 16 ?_
       simp only [fS,fS2,fS2,qA,qC,hcself]
       refine Sub.link id (by omega) ?_ ?_ ?_<;>(simp [qK,qLp,okB,pM,aN,xE,jQ]; done)
      ·have e:cE M (i+1)=cE M i+1:=by
        show cE M i+_=_
        rw [if_neg hst]
       simp only [go_sem,seval,qS (i:=i) (by omega),qS (i:=cE M i) (by omega),hcg,hst]
       repeat refine K ?_
       refine qT (i+1) ?_ hi' (by omega)
       rw [e]
       refine FA 14 1 15 ?_
       simp only [fS,fS2,fS2,qA,qC]
       refine FA 14 2 16 ?_
       simp only [fS,fS2,fS2,qA,qC,hcself]
       refine Sub.link id (by omega) ?_ ?_ ?_<;>(simp [qK,qLp,okB,pM,aN,xE,jQ]; done)
     ·simp only [decide_eq_false_iff_not] at hc
      obtain rfl:i=M.cores.length:=by omega
      simp only [go_sem,seval]
      apply wS (by simp)
      ·exact Sub.refl _
      ·simp [-List.drop_one,-gD,qR]<;>(first | rfl | exact ⟨rfl,rfl⟩ | exact ⟨rfl,rfl,rfl⟩ | skip)
   ·simp only [go_sem,seval,h1]
    refine qX (ι:=Nat) (fun i=>.mk [(6,.ptr 12 0 0),(8,.ptr 13 0 0),(11,.int .i64 (cE M i)),(44,.ns 14 0 M.cores.length),(45,.int .i64 M.cores.length),(46,.int .i64 i)] [(12,4,[[.nil,.nil,.nil,.nil]]),(13,4,[[.sl .own 1 (codes .own M.codes),.ns 14 0 M.cores.length,.sl .own 1 (jC .own M.mem.cells),.sl .own 2 (jK M.tr)]]),(14,4,cores .own M.cores)] 15) (fun i=>i≤M.cores.length) (fun i=>M.cores.length-i) 0 (by simp) ?_ ?_
    ·refine Sub.link id (by omega) ?_ ?_ ?_<;>(simp [qK,qLp,okB,pM,aN,xE,jQ,cE]; done)
    ·rintro i hi
     simp only [go_sem,seval]
     refine qL (fun hc=>?_) (fun hc=>?_)
     ·simp only [decide_eq_true_eq] at hc
      have hi':i<M.cores.length:=by omega
      have hcg:=jR .own M.cores i hi'
      have hcself:(cores .own M.cores).set i [.int .i64 (qJ M i).at_,.sl .own 1 (wN (qJ M i).regs),.sl .own 1 (wN (qJ M i).view),.int .i64 (qJ M i).st]=cores .own M.cores:=by rw [show qJ M i=M.cores.getD i default from rfl,←hcg,wR _ _ _ (by rw [jO]; exact hi')]
      have hkk:M.cores.getD i default=qJ M i:=rfl
      rw [hkk] at hcg
      have ho:=qJ0 M i
      by_cases hst:(qJ M i).st=0
      ·have e:cE M (i+1)=cE M i:=by
        show cE M i+_=_
        rw [if_pos hst]
        rfl
       simp only [go_sem,seval,qS (i:=i) (by omega),hcg,hst]
       repeat refine K ?_
       refine qT (i+1) ?_ hi' (by omega)
       rw [e]
       rw [hst] at hcself
       refine FA 14 1 15 ?_
       simp only [fS,fS2,fS2,qA,qC]
       refine FA 14 2 16 ?_
       simp only [fS,fS2,fS2,qA,qC,hcself]
       refine Sub.link id (by omega) ?_ ?_ ?_<;>(simp [qK,qLp,okB,pM,aN,xE,jQ]; done)
      ·have e:cE M (i+1)=cE M i+1:=by
        show cE M i+_=_
        rw [if_neg hst]
       simp only [go_sem,seval,qS (i:=i) (by omega),qS (i:=cE M i) (by omega),hcg,hst]
       repeat refine K ?_
       refine qT (i+1) ?_ hi' (by omega)
       rw [e]
       refine FA 14 1 15 ?_
       simp only [fS,fS2,fS2,qA,qC]
       refine FA 14 2 16 ?_
       simp only [fS,fS2,fS2,qA,qC,hcself]
       refine Sub.link id (by omega) ?_ ?_ ?_<;>(simp [qK,qLp,okB,pM,aN,xE,jQ]; done)
     ·simp only [decide_eq_false_iff_not] at hc
      obtain rfl:i=M.cores.length:=by omega
      simp only [go_sem,seval]
      apply wS (by simp)
      ·exact Sub.refl _
      ·simp [-List.drop_one,-gD,qR]<;>(first | rfl | exact ⟨rfl,rfl⟩ | exact ⟨rfl,rfl,rfl⟩ | skip)
  have h1:(k:Int)<rounds:=by omega
  have h2:(k:Int)<60:=by omega
  rw [qI3 hkR] at he
  have f1:=qK3 p hMk
  have hI:=qDz p M hp hMk
  have hef:qE3 p n (R-(k+1)) (lR p (List.range n) (qGu p M))=qE3 p n R m:=he
  generalize qGu p M=M0 at *
  simp only [go_sem,seval,h1,h2]
  refine CA [(0,13)] (hI) ?_
  try simp only [go_sem,seval]
  have hn0:M0.cores.length=n:=by omega
  try simp only [go_sem,seval,hn0]
  refine qX (ι:=Nat×qO) (fun q=>.mk [(2,.int .i64 rounds),(3,.ptr 10 0 0),(6,.ptr 12 0 0),(8,.ptr 13 0 0),(9,.int .i64 k),(34,.int .i64 n),(35,.int .i64 q.1)] [(10,2,[jF .bw p]),(12,4,[[.nil,.nil,.nil,.nil]]),(13,4,[qR .own q.2])] 14) (fun q=>q.1≤n∧wP q.2=true∧q.2.cores.length=n∧lR p ((List.range n).drop q.1) q.2=lR p (List.range n) M0) (fun q=>n-q.1) (0,M0) ⟨by simp,f1.1,hn0,rfl⟩ ?_ ?_
  ·refine Sub.trans (Sub.fold1 13 1 15 rfl (by simp [-gD]<;>omega) rfl (by decide) (by decide) rfl) ?_
   simp only [fS,fS2,qA,qC]
   refine Sub.shape [] id (by omega) ?_ ?_ ?_ ?_<;>simp [qK]
   all_goals exact fun e=>absurd hn0 e
  ·rintro ⟨j,M1⟩ ⟨hj,hM1,hlen1,he1⟩
   simp only at hj hM1 hlen1 he1
   simp only [go_sem,seval]
   refine qL (fun hc1=>?_) (fun hc1=>?_)
   ·simp only [decide_eq_true_eq] at hc1
    have hj':j<n:=by omega
    rw [qKh hj'] at he1
    have a1:=qCd (aT 40) (j:Int) hM1
    have a2:=qJz p j hM1
    have hA:=qJx M1 j 40 hM1
    have hB:qW Tryz.prog num 427 _ _ _:=qDz p (gT (aT 40) M1 j) hp a1
    have hef1:lR p ((List.range n).drop (j+1)) (oC p M1 j)=lR p (List.range n) M0:=he1
    change qW Tryz.prog num 427 [.ptr 0 0 0,.agg (jF .bw p)] [(0,some (4,[qR .own (gT (aT 40) M1 j)]),some (4,[qR .own (oC p M1 j)]))] _ at hB
    generalize oC p M1 j=M2 at *
    generalize gT (aT 40) M1 j=M3 at *
    simp only [go_sem,seval,qS (i:=j) (by omega)]
    refine CA [(0,13)] (hA) ?_
    try simp only [go_sem,seval]
    refine CA [(0,13)] (hB) ?_
    try simp only [go_sem,seval]
    try simp only [go_sem,seval,qS (i:=j) (by omega)]
    refine qT (j+1,M2) ?_ ⟨hj',a2.1,by rw [a2.2]; exact hlen1,hef1⟩ (by simp only; omega)
    refine Sub.shape [] id (by omega) ?_ ?_ ?_ ?_<;>simp [qK]
   ·simp only [decide_eq_false_iff_not] at hc1
    obtain rfl:j=n:=by omega
    have he1':M1=lR p (List.range j) M0:=by
     rw [←he1,List.drop_eq_nil_of_le (by simp)]
     rfl
    simp only [go_sem,seval,qS (i:=k) (by omega)]
    refine qT (k+1,M1) ?_ ⟨hkR,hM1,hlen1,by rw [he1']; exact hef⟩ (by simp only; omega)
    refine Sub.shape [] id (by omega) ?_ ?_ ?_ ?_<;>simp [qK]
def qPk (p:wM) (s:wH):Prop :=∀who,yL p s who≠0
theorem Inv.stay {p:wM} {m:qO} {s:wH} (h:Inv p m s) (hs:qPk p s) (x:vD):Inv p (wZ m x).1 s:=by
 rcases h.pick x with ⟨_,h2⟩ | ⟨_,_,h3⟩
 ·exact h2
 ·have:(wT p s x.who).1=s:=by
   unfold wT
   rw [if_neg (hs x.who)]
  rw [this] at h3
  exact h3
theorem Inv.stayRst {p:wM} {s:wH} (hs:qPk p s) (i:Nat) :∀(n:Nat) {m:qO},Inv p m s→Inv p (rst p i n m) s
 | 0,_,h=>h
 | n+1,m,h=>by
  unfold rst
  split
  ·exact Inv.stayRst hs i n (h.stay hs ⟨i,0⟩)
  ·exact h
theorem Inv.stayRow {p:wM} {s:wH} (hs:qPk p s) :∀(l:List Nat) {m:qO},Inv p m s→Inv p (qIl p l m) s
 | [],_,h=>h
 | i::l,m,h=>by
  show Inv p (qIl p l (rst p i 40 m)) s
  exact Inv.stayRow hs l (Inv.stayRst hs i 40 h)
theorem Inv.stayRest {p:wM} {s:wH} (hs:qPk p s) (n:Nat) :∀(k:Nat) {m:qO},Inv p m s→Inv p (qD7 p n k m) s
 | 0,_,h=>h
 | k+1,m,h=>Inv.stayRest hs n k (Inv.stayRow hs _ h)
theorem Inv.stayAlone {p:wM} {s:wH} (hs:qPk p s) :∀(n:Nat) {m:qO} (who:Int),Inv p m s→Inv p (gT n m who) s
 | 0,_,_,h=>h
 | n+1,m,who,h=>by
  unfold gT
  split
  ·exact Inv.stayAlone hs n who (h.stay hs ⟨who,0⟩)
  ·exact h.stay hs ⟨who,0⟩
theorem Inv.stayFinWho {p:wM} {s:wH} (hs:qPk p s) :∀(l:List Nat) {m:qO},Inv p m s→Inv p (lR p l m) s
 | [],_,h=>h
 | i::l,m,h=>by
  show Inv p (lR p l (oC p m i)) s
  exact Inv.stayFinWho hs l (Inv.stayRest hs _ 4 (Inv.stayAlone hs _ _ h))
end Go.Sep
