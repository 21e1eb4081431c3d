/- Contracts of functions. -/
import Derived.Test.YtebbppogicgpkaaGreatQxx10
import Derived.Test.YtebbppogicgpkaaGreatQxx27
import Derived.Test.YtebbppogicgpkaaGreatQxx30
namespace Go.Sep
set_option maxHeartbeats 16000000
open Go.Proofs
set_option linter.unusedSimpArgs false
set_option linter.unusedVariables false
set_option maxRecDepth 100000
open Nat renaming reduceAdd → qA, reduceMul → qB, reduceEqDiff → qC, reduceBEq → qD
open Int renaming reduceToNat → qE, reduceEq → qF, reduceLT → qG, reduceLE → qH
open List renaming getD_eq_getElem?_getD → gD
def m427:MFn:=⟨54,[.t 4],kr [xb 3 1,xo 4 (.mv (.c (.nil)))] (kr [xo 9 (.mkSl [xz] 0 []),xv 5 9] (.seq (kr [xI 10 0] (.blk 0 (.loop (kr [bI 11 .lss 10 4] (.seq (kX 11 0) (.seq (.blk 1 (kr [xv 12 0,xk 13 12,xa 14 1 13,xl 15 14,xe 16 15,xI 17 0] (.blk 2 (.loop (kr [bT 18 .lss 17 16] (.seq (kX 18 2) (.seq (.blk 3 (kr [xv 19 17,xv 6 19] (kr [xI 20 0] (.blk 4 (.loop (kr [bI 21 .lss 20 40] (.seq (kX 21 4) (.seq (.blk 5 (.seq (kr [xv 22 0,xk 23 22,xa 24 1 23,xl 25 24,xv 26 6,xD 27 4 25 26,xa 28 3 27,xl 29 28,bI 30 .neq 29 0,xv 31 30,xg 32 (.load 2 true (.t 3)) 31 false,zv 33 0 31,zv 34 6 31,xg 35 (.call 437 [false,false,false] [.t 32,.t 33,.t 34]) 31 false,xQ 36 31 35] (.cond 36 (.exit 4) (.skip))) (kr [xm 38 2 3,xv 39 0,xv 40 6,xo 41 (.build [xz,xz] [(0,1,.t 40)]),xo 42 (.call 428 [false,true,false] [.t 38,.t 39,.t 41]),xv 37 42,xX 43 37 0,xX 44 37 1,xv 7 43,xv 8 44] (kr [xv 45 8] (.cond 45 (xr [xv 46 5,xv 47 6,xo 48 (.mkSl [xz] 1 [(0,.t 47)]),xA 49 1 8 46 48,xv 5 49]) (.skip)))))) (xr [bI 50 .add 20 1,xv 20 50]))))))))) (xr [bI 51 .add 17 1,xv 17 51])))))))) (xr [bI 52 .add 10 1,xv 10 52]))))))) (kR [xv 53 5,xv 4 53])))⟩
def m437:MFn:=⟨39,[.t 6],kr [xb 3 0,xF 6] (.seq (kr [xv 9 1,xv 10 2,xc2 11 229 (.t 9) (.t 10),xN 12 11] (kF 12 [xF 6])) (.seq (.dreg (.take 0 (xm 14 2 3) (.take 1 (xv 15 2) (.take 2 (xv 16 1) (.take 3 (xk 17 16) (.take 4 (xa 18 1 17) (.take 5 (xl 19 18) (.only 6 [] (xv 20 2) (.only 7 [5,4,3,2] (xD 21 4 19 20) (.only 8 [7,5,4,3,2] (xa 22 0 21) (.only 9 [8,7,5,4,3,2] (xl 23 22) (.only 10 [0,1,9,8,7,5,4,3,2] (xc3 24 230 (.t 14) (.t 15) (.t 23)) (.only 11 [10,0,1,9,8,7,5,4,3,2] (xv 13 24) (.take 12 (xX 25 13 0) (.take 13 (xX 26 13 1) (.only 14 [0,1,2,3,4,5,12] (xv 7 25) (.only 15 [0,1,2,3,4,5,12,13] (xv 8 26) (.done)))))))))))))))))) (kR [xv 27 1,xk 28 27,xa 29 1 28,xl 30 29,xv 31 2,xD 32 4 30 31,xa 33 3 32,xl 34 33,bI 35 .eql 34 0,xv 36 35,yv 37 8 36,xP 38 36 37,xv 6 38])))⟩
def rstO (p:Prog) (i:Nat):Nat→Machine×List Int→Machine×List Int
 | 0,q=>q
 | n+1,q=>if rstGo p q.1 i then rstO p i n ((mstep q.1 ⟨i,0⟩).1,q.2++(if did p q.1 ⟨i,0⟩=true then [(i:Int)] else [])) else q
theorem rstO_fst (p:Prog) (i:Nat) :∀(n:Nat) (q:Machine×List Int),(rstO p i n q).1=rst p i n q.1
 | 0,_=>rfl
 | n+1,q=>by
  unfold rstO rst
  split
  ·rw [rstO_fst p i n]
  ·rfl
theorem rst_ok (p:Prog) (i:Nat) :∀(n:Nat) {M:Machine},machineOk M=true→machineOk (rst p i n M)=true∧(rst p i n M).cores.length=M.cores.length
 | 0,_,h=>⟨h,rfl⟩
 | n+1,M,h=>by
  unfold rst
  split
  ·have:=rst_ok p i n (mstep_ok ⟨i,0⟩ h)
   exact ⟨this.1,by rw [this.2,(mstep_len M ⟨i,0⟩).1]⟩
  ·exact ⟨h,rfl⟩
def rowO (p:Prog) (l:List Nat) (q:Machine×List Int):Machine×List Int:=l.foldl (fun q i=>rstO p i 40 q) q
theorem rowO_fst (p:Prog) :∀(l:List Nat) (q:Machine×List Int),(rowO p l q).1=rowM p l q.1
 | [],_=>rfl
 | i::l,q=>by
  unfold rowO rowM
  simp only [List.foldl_cons]
  have:=rowO_fst p l (rstO p i 40 q)
  unfold rowO rowM at this
  rw [this,rstO_fst]
theorem rowM_ok (p:Prog) :∀(l:List Nat) {M:Machine},machineOk M=true→machineOk (rowM p l M)=true∧(rowM p l M).cores.length=M.cores.length
 | [],_,h=>⟨h,rfl⟩
 | i::l,M,h=>by
  have h1:=rst_ok p i 40 h
  have h2:=rowM_ok p l h1.1
  exact ⟨h2.1,by show (rowM p l (rst p i 40 M)).cores.length=_; rw [h2.2,h1.2]⟩
def restO (p:Prog) (n:Nat):Nat→Machine×List Int→Machine×List Int
 | 0,q=>q
 | k+1,q=>restO p n k (rowO p (List.range n) q)
def restN (p:Prog) (n:Nat):Nat→Machine→Machine
 | 0,M=>M
 | k+1,M=>restN p n k (rowM p (List.range n) M)
theorem restO_fst (p:Prog) (n:Nat) :∀(k:Nat) (q:Machine×List Int),(restO p n k q).1=restN p n k q.1
 | 0,_=>rfl
 | k+1,q=>by
  unfold restO restN
  rw [restO_fst p n k,rowO_fst]
theorem restN_ok (p:Prog) (n:Nat) :∀(k:Nat) {M:Machine},machineOk M=true→machineOk (restN p n k M)=true∧(restN p n k M).cores.length=M.cores.length
 | 0,_,h=>⟨h,rfl⟩
 | k+1,M,h=>by
  have h1:=rowM_ok p (List.range n) h
  have h2:=restN_ok p n k h1.1
  exact ⟨h2.1,by show (restN p n k (rowM p (List.range n) M)).cores.length=_; rw [h2.2,h1.2]⟩
theorem sub_succ {n j:Nat} (h:j<n):n-j=(n-(j+1))+1:=by omega
theorem drop_range {n i:Nat} (h:i<n):(List.range n).drop i=i::(List.range n).drop (i+1):=by
 rw [List.drop_eq_getElem_cons (by simpa using h)]
 simp
theorem between_eq (p:Prog) (m:Machine) (i:Nat):between p m i=(within (i:Int) 0 (m.cores.length-1)&&decide ((coreAt m i).st=0)&&(placeOf p i (coreAt m i).at_).2):=rfl
theorem implBetween_ok (p:Prog) (m:Machine) (i:Nat) (hp:SmallP p) (hl:m.cores.length<2^40) (hi:i<m.cores.length):CallOk Tryz.prog num 437 [.agg (progC .bw p),.fptr .bw (machineC .bw m) 0,.int .i64 i] [] (.bool (between p m i)):=by
 refine EN m437 Tryz.func90 ?_
 unfold m437
 have hw:within (i:Int) 0 (m.cores.length-1)=true:=by rw [within_iff]; omega
 have hcg:=cores_getD .bw m.cores i hi
 have hk:m.cores.getD i default=coreAt m i:=rfl
 rw [hk] at hcg
 rw [between_eq,hw,Bool.true_and]
 simp only [go_sem,seval]
 repeat refine K ?_
 refine CA [] (isCore_ok m i hl) ?_
 try simp only [go_sem,seval]
 repeat refine K ?_
 try simp only [go_sem,seval,hw,hcg]
 repeat refine K ?_
 refine DA [] (implPlaceOf_ok p i (coreAt m i).at_ hp) ?_
 try simp only [go_sem,seval]
 repeat refine K ?_
 try simp only [go_sem,seval,hcg]
 repeat refine K ?_
 by_cases hst:(coreAt m i).st=0
 ·try simp only [go_sem,seval,hst,hcg]
  repeat refine K ?_
  refine fz ?_; simp [FinS,nilL,nilV,oneOr,-List.drop_one]
 ·try simp only [go_sem,seval,hst,hcg]
  repeat refine K ?_
  refine fz ?_; simp [FinS,nilL,nilV,oneOr,-List.drop_one]
theorem implRest_ok (p:Prog) (m:Machine) (hp:SmallP p) (h:machineOk m=true):CallOk Tryz.prog num 427 [.ptr 0 0 0,.agg (progC .bw p)] [(0,some (4,[machineC .own m]),some (4,[machineC .own (restN p m.cores.length 4 m)]))] (.sl .own 1 (ints (restO p m.cores.length 4 (m,[])).2)):=by
 have hM:=(qA8 m).1 h
 have hc0:=hM.cores
 have hn4:=hM.n4
 have hfst:=restO_fst p m.cores.length 4 (m,[])
 simp only at hfst
 rw [←hfst]
 refine EH m427 Tryz.func85 ?_
 unfold m427
 simp only [go_sem,seval]
 repeat refine K ?_
 generalize hn:m.cores.length=n at *
 refine loop_intro (ι:=Nat×Machine×List Int) (fun q=>.mk [(0,.ptr 0 0 0),(3,.ptr 10 0 0),(5,.ns 11 0 q.2.2.length),(10,.int .i64 q.1)] [(0,4,[machineC .own q.2.1]),(10,2,[progC .bw p]),(11,1,ints q.2.2)] 12) (fun q=>q.1≤4∧machineOk q.2.1=true∧q.2.1.cores.length=n∧q.2.2.length≤160*q.1∧restO p n (4-q.1) q.2=restO p n 4 (m,[])) (fun q=>4-q.1) (0,m,[]) ⟨by simp,h,hn,by simp,rfl⟩ ?_ ?_
 ·refine Sub.shape [] id (by omega) ?_ ?_ ?_ ?_<;>simp [ints_rep]
  all_goals simp [ints]
 ·rintro ⟨k,M,o⟩ ⟨hk,hMk,hlen,ho,he⟩
  simp only at hk hMk hlen ho he
  simp only [go_sem,seval]
  refine branch_intro (fun hc=>?_) (fun hc=>?_)
  rotate_left
  case _ =>
   simp only [decide_eq_false_iff_not] at hc
   obtain rfl:k=4:=by omega
   have he':(M,o)=restO p n 4 (m,[]):=he
   rw [←he']
   simp only [go_sem,seval]
   repeat refine K ?_
   apply fin_one
   ·exact Sub.refl _
   ·simp [-List.drop_one,-gD,machineC]<;>(first | rfl | exact ⟨rfl,rfl⟩ | exact ⟨rfl,rfl,rfl⟩ | skip)
  simp only [decide_eq_true_eq] at hc
  have hk4:k<4:=by omega
  rw [sub_succ hk4] at he
  simp only [go_sem,seval,hlen]
  repeat refine K ?_
  refine loop_intro (ι:=Nat×Machine×List Int) (fun q=>.mk [(0,.ptr 0 0 0),(3,.ptr 10 0 0),(5,.ns 11 0 q.2.2.length),(10,.int .i64 k),(16,.int .i64 n),(17,.int .i64 q.1)] [(0,4,[machineC .own q.2.1]),(10,2,[progC .bw p]),(11,1,ints q.2.2)] 12) (fun q=>q.1≤n∧machineOk q.2.1=true∧q.2.1.cores.length=n∧q.2.2.length≤160*k+40*q.1∧rowO p ((List.range n).drop q.1) q.2=rowO p (List.range n) (M,o)) (fun q=>n-q.1) (0,M,o) ⟨by simp,hMk,hlen,by simp only; omega,by simp⟩ ?_ ?_
  ·refine Sub.trans (Sub.fold1 0 1 12 rfl (by simp [-gD]<;>omega) rfl (by decide) (by decide) rfl) ?_
   simp only [fS,fS2,qA,qC]
   refine Sub.shape [] id (by omega) ?_ ?_ ?_ ?_<;>simp [ints_rep]
   all_goals exact fun e=>absurd hlen e
  ·rintro ⟨i,M1,o1⟩ ⟨hi,hM1,hlen1,ho1,he1⟩
   simp only at hi hM1 hlen1 ho1 he1
   simp only [go_sem,seval]
   refine branch_intro (fun hc1=>?_) (fun hc1=>?_)
   rotate_left
   case _ =>
    simp only [decide_eq_false_iff_not] at hc1
    obtain rfl:i=n:=by omega
    have he1':(M1,o1)=rowO p (List.range i) (M,o):=by
     rw [←he1,List.drop_eq_nil_of_le (by simp)]
     rfl
    simp only [go_sem,seval,wrap_succ (i:=k) (by omega)]
    repeat refine K ?_
    refine back_intro (k+1,M1,o1) ?_ ⟨hk4,hM1,hlen1,by simp only; omega,by rw [←he]; simp only [restO]; rw [←he1']⟩ (by simp only; omega)
    refine Sub.shape [] id (by omega) ?_ ?_ ?_ ?_<;>simp [ints_rep]
   simp only [decide_eq_true_eq] at hc1
   have hin:i<n:=by omega
   rw [drop_range hin] at he1
   simp only [go_sem,seval]
   repeat refine K ?_
   refine loop_intro (ι:=Nat×Machine×List Int) (fun q=>.mk [(0,.ptr 0 0 0),(3,.ptr 10 0 0),(5,.ns 11 0 q.2.2.length),(6,.int .i64 i),(10,.int .i64 k),(16,.int .i64 n),(17,.int .i64 i),(20,.int .i64 q.1)] [(0,4,[machineC .own q.2.1]),(10,2,[progC .bw p]),(11,1,ints q.2.2)] 12) (fun q=>q.1≤40∧machineOk q.2.1=true∧q.2.1.cores.length=n∧q.2.2.length≤160*k+40*i+q.1∧rstO p i (40-q.1) q.2=rstO p i 40 (M1,o1)) (fun q=>40-q.1) (0,M1,o1) ⟨by simp,hM1,hlen1,by simp only; omega,rfl⟩ ?_ ?_
   ·refine Sub.shape [] id (by omega) ?_ ?_ ?_ ?_<;>simp [ints_rep]
   ·rintro ⟨j,M2,o2⟩ ⟨hj,hM2,hlen2,ho2,he2⟩
    simp only at hj hM2 hlen2 ho2 he2
    have next :∀q,q=rstO p i 40 (M1,o1)→rowO p ((List.range n).drop (i+1)) q=rowO p (List.range n) (M,o):=fun q hq=>by
     rw [←he1,hq]
     rfl
    simp only [go_sem,seval]
    refine branch_intro (fun hc2=>?_) (fun hc2=>?_)
    rotate_left
    case _ =>
     simp only [decide_eq_false_iff_not] at hc2
     obtain rfl:j=40:=by omega
     simp only [go_sem,seval,wrap_succ (i:=i) (by omega)]
     repeat refine K ?_
     refine back_intro (i+1,M2,o2) ?_ ⟨hin,hM2,hlen2,by simp only; omega,next _ he2⟩ (by simp only; omega)
     refine Sub.shape [] id (by omega) ?_ ?_ ?_ ?_<;>simp [ints_rep]
    simp only [decide_eq_true_eq] at hc2
    have hj40:j<40:=by omega
    rw [sub_succ hj40] at he2
    have hil:i<M2.cores.length:=by omega
    have hcg:=cores_getD .own M2.cores i hil
    have hkk:M2.cores.getD i default=coreAt M2 i:=rfl
    rw [hkk] at hcg
    simp only [go_sem,seval,hcg]
    repeat refine K ?_
    by_cases hst:(coreAt M2 i).st=0
    case neg =>
     have hgo:rstGo p M2 i=false:=by simp [rstGo,hst]
     have he3:(M2,o2)=rstO p i 40 (M1,o1):=by
      rw [←he2]
      simp only [rstO,hgo]
      rfl
     try simp only [go_sem,seval,hst,hcg,wrap_succ (i:=i) (by omega)]
     repeat refine K ?_
     refine back_intro (i+1,M2,o2) ?_ ⟨hin,hM2,hlen2,by simp only; omega,next _ he3⟩ (by simp only; omega)
     refine Sub.trans (Sub.fold1 0 1 12 rfl (by simp [-gD]<;>omega) rfl (by decide) (by decide) rfl) ?_
     simp only [fS,fS2,qA,qC]
     refine Sub.shape [] id (by omega) ?_ ?_ ?_ ?_<;>simp [ints_rep]
    try simp only [go_sem,seval,hst,hcg]
    repeat refine K ?_
    apply calls_mk
    ·refine Sub.trans (Sub.fold1 0 1 12 rfl (by simp [-gD]<;>omega) rfl (by decide) (by decide) rfl) ?_
     simp only [fS,fS2,qA,qC]
     exact Sub.refl _
    refine CA [] (implBetween_ok p M2 i hp (by omega) hil) ?_
    try simp only [go_sem,seval]
    repeat refine K ?_
    cases hb:between p M2 i
    case true =>
     have hgo:rstGo p M2 i=false:=by simp [rstGo,hb]
     have he3:(M2,o2)=rstO p i 40 (M1,o1):=by
      rw [←he2]
      simp only [rstO,hgo]
      rfl
     try simp only [go_sem,seval,hb,wrap_succ (i:=i) (by omega)]
     repeat refine K ?_
     refine back_intro (i+1,M2,o2) ?_ ⟨hin,hM2,hlen2,by simp only; omega,next _ he3⟩ (by simp only; omega)
     refine Sub.shape [] id (by omega) ?_ ?_ ?_ ?_<;>simp [ints_rep]
    have hgo:rstGo p M2 i=true:=by simp [rstGo,hb,hst]
    try simp only [go_sem,seval,hb]
    repeat refine K ?_
    refine CA [(0,0)] (implWitnessed_ok p M2 ⟨i,0⟩ hp hM2 (by unfold pkOk; simp)) ?_
    try simp only [go_sem,seval]
    repeat refine K ?_
    have hM3:=mstep_ok ⟨i,0⟩ hM2
    have hlen3:=(mstep_len M2 ⟨i,0⟩).1
    cases hd:did p M2 ⟨i,0⟩
    ·have he3:rstO p i (40-(j+1)) ((mstep M2 ⟨i,0⟩).1,o2)=rstO p i 40 (M1,o1):=by
      rw [←he2]
      simp only [rstO,hgo,hd]
      simp
     try simp only [go_sem,seval,hd,wrap_succ (i:=j) (by omega)]
     repeat refine K ?_
     refine back_intro (j+1,(mstep M2 ⟨i,0⟩).1,o2) ?_ ⟨hj40,hM3,by rw [hlen3]; exact hlen2,by simp only; omega,he3⟩ (by simp only; omega)
     refine Sub.shape [] id (by omega) ?_ ?_ ?_ ?_<;>simp [ints_rep]
    ·have he3:rstO p i (40-(j+1)) ((mstep M2 ⟨i,0⟩).1,o2++[(i:Int)])=rstO p i 40 (M1,o1):=by
      rw [←he2]
      simp only [rstO,hgo,hd]
      simp
     try simp only [go_sem,seval,hd,wrap_succ (i:=j) (by omega)]
     repeat refine K ?_
     refine back_intro (j+1,(mstep M2 ⟨i,0⟩).1,o2++[(i:Int)]) ?_ ⟨hj40,hM3,by rw [hlen3]; exact hlen2,by simp; omega,he3⟩ (by simp only; omega)
     refine Sub.shape [] (fun n=>if n=11 then 14 else n) (by omega) ?_ ?_ ?_ ?_<;>simp [ints_rep]
     exact .inl (by simp [ints])
def m401:MFn:=⟨16,[.cell 4 4 true],kr [xb 2 0,xb 3 1,xo 4 (.alloc [.nil,.nil,.nil,.nil])] (.seq (kr [xm 6 2 2,xm 7 4 3,xc2 8 426 (.t 6) (.t 7),xN 9 8] (kF 9 [xo 10 (.build [.nil,.nil,.nil,.nil] []),xS 4 4 10])) (kr [xm 11 4 3,xc1 12 358 (.t 11),xo 5 (.alloc [.nil,.nil,.nil,.nil]),xS 4 5 12] (kr [xm 13 2 2,xo 14 (.call 427 [true,false] [.t 5,.t 13])] (kR [xm 15 4 5,xS 4 4 15]))))⟩
def m426:MFn:=⟨16,[.t 4],kr [xb 2 0,xb 3 1,xF 4] (kR [xm 5 4 3,xc1 6 235 (.t 5),xv 7 6,ya 8 1 3 7,yl 9 1 8 7,ye 10 9 7,ya 11 1 2 7,yl 12 1 11 7,ye 13 12 7,xg 14 (.bin .eql (.t 10) (.t 13)) 7 true,xP 15 7 14,xv 4 15])⟩
def restR (p:Prog) (m:Machine):Machine:=if machineOk m&&decide (m.cores.length=p.bods.length) then restN p m.cores.length 4 m else nilM
theorem restable_ok (p:Prog) (m:Machine) (hm:SmallM m):CallOk Tryz.prog num 426 [.agg (progC .bw p),.agg (machineC .bw m)] [] (.bool (machineOk m&&decide (m.cores.length=p.bods.length))):=by
 refine EN m426 Tryz.func83 ?_
 unfold m426
 simp only [go_sem,seval]
 repeat refine K ?_
 refine CA [] (implMachineOk_ok m hm) ?_
 try simp only [go_sem,seval]
 repeat refine K ?_
 cases hok:machineOk m
 ·try simp only [go_sem,seval,hok]
  repeat refine K ?_
  refine fz ?_; simp [FinS,nilL,nilV,oneOr,-List.drop_one]
 by_cases hl:(m.cores.length:Int)=p.bods.length
 ·try simp only [go_sem,seval,hok,hl]
  repeat refine K ?_
  refine fz ?_; simp [FinS,nilL,nilV,oneOr,-List.drop_one]
  omega
 ·try simp only [go_sem,seval,hok,hl]
  repeat refine K ?_
  refine fz ?_; simp [FinS,nilL,nilV,oneOr,-List.drop_one]
  omega
theorem implRestTop_ok (p:Prog) (m:Machine) (hp:SmallP p) (hm:SmallM m):CallOk Tryz.prog num 401 [.agg (progC .bw p),.agg (machineC .bw m)] [] (.agg (machineC .own (restR p m))):=by
 refine EN m401 Tryz.func31 ?_
 unfold m401
 simp only [go_sem,seval]
 repeat refine K ?_
 refine CA [] (restable_ok p m hm) ?_
 try simp only [go_sem,seval]
 repeat refine K ?_
 cases hok:(machineOk m&&decide (m.cores.length=p.bods.length))
 ·have hr:restR p m=nilM:=by unfold restR; rw [hok]; rfl
  rw [hr]
  try simp only [go_sem,seval,hok]
  repeat refine K ?_
  refine ⟨_,Sub.refl _,FinS_one ?_⟩; simp [-List.drop_one]
  simp [nilM]
 have hr:restR p m=restN p m.cores.length 4 m:=by unfold restR; rw [hok]; rfl
 rw [hr]
 have hMo:machineOk m=true:=by simp only [Bool.and_eq_true] at hok; exact hok.1
 try simp only [go_sem,seval,hok]
 repeat refine K ?_
 refine CA [] (copyMachine_ok m hm) ?_
 try simp only [go_sem,seval]
 repeat refine K ?_
 try simp only [go_sem,seval]
 repeat refine K ?_
 apply calls_mk
 ·refine Sub.trans (Sub.fold1 17 0 13 rfl (by simp [-gD]<;>omega) rfl (by decide) (by decide) rfl) ?_
  simp only [fS,fS2,qA,qC]
  refine Sub.trans (Sub.fold1 17 1 14 rfl (by simp [-gD]<;>omega) rfl (by decide) (by decide) rfl) ?_
  simp only [fS,fS2,qA,qC]
  refine Sub.trans (Sub.fold1 17 2 15 rfl (by simp [-gD]<;>omega) rfl (by decide) (by decide) rfl) ?_
  simp only [fS,fS2,qA,qC]
  refine Sub.trans (Sub.fold1 17 3 16 rfl (by simp [-gD]<;>omega) rfl (by decide) (by decide) rfl) ?_
  simp only [fS,fS2,qA,qC]
  exact Sub.refl _
 refine CA [(0,17)] (implRest_ok p m hp hMo) ?_
 try simp only [go_sem,seval]
 repeat refine K ?_
 try simp only [go_sem,seval]
 repeat refine K ?_
 refine ⟨_,Sub.refl _,FinS_one ?_⟩; simp [-List.drop_one]
def fRest (p:Prog) (M:Machine):Machine:=restN p M.cores.length 4 M
theorem fRest_ok (p:Prog) {M:Machine} (h:machineOk M=true):machineOk (fRest p M)=true∧(fRest p M).cores.length=M.cores.length:=restN_ok p _ 4 h
end Go.Sep
