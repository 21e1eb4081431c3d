/- Contracts of functions. -/
import Derived.Test.YtebbppogicgpkaaGreatRxx22
namespace Go.Sep
set_option maxHeartbeats 16000000
open Go.Proofs
set_option linter.unusedSimpArgs false
set_option linter.unusedVariables false
set_option maxRecDepth 100000
open Nat renaming reduceAdd → qA, reduceMul → qB, reduceEqDiff → qC, reduceBEq → qD
open Int renaming reduceToNat → qE, reduceEq → qF, reduceLT → qG, reduceLE → qH
open List renaming getD_eq_getElem?_getD → gD
def m415:MFn:=⟨29,[.cell 2 4 true,.t 3],kr [xo 2 (.alloc [.nil,.nil,.nil,.nil]),xF 3] (kr [xv 6 0,xc1 7 372 (.t 6),xo 8 (.call 431 [] []),xo 9 (.build [.nil,.nil,.nil,.nil] [(0,1,.t 7),(2,1,.t 8)]),xo 4 (.alloc [.nil,.nil,.nil,.nil]),xS 4 4 9] (.seq (kr [xI 5 0] (.blk 0 (.loop (.seq (kr [xv 10 5,xv 11 0,xe 12 11,bT 13 .lss 10 12] (kX 13 0)) (.seq (.blk 1 (.dreg (.take 0 (xa 16 1 4) (.take 1 (xl 17 16) (.both 2 [] (xo 18 (.mkS [xz] 8 (xi 8) (xi 8))) (.only 3 [] (xo 19 (.mkS [xz] 8 (xi 24) (xi 24))) (.only 4 [] (xo 20 (.build [.int .i64 0,.nil,.nil,.int .i64 0] [(1,1,.t 18),(2,1,.t 19)])) (.only 5 [] (xo 21 (.mkSl [.int .i64 0,.nil,.nil,.int .i64 0] 1 [(0,.t 20)])) (.only 6 [1,0] (xA 22 4 64 17 21) (.only 7 [0,1] (xa 23 1 4) (.only 8 [0,1] (xS 1 23 22) (.done))))))) 3 [] (xo 19 (.mkS [xz] 8 (xi 24) (xi 24))) (.only 2 [] (xo 18 (.mkS [xz] 8 (xi 8) (xi 8))) (.only 4 [] (xo 20 (.build [.int .i64 0,.nil,.nil,.int .i64 0] [(1,1,.t 18),(2,1,.t 19)])) (.only 5 [] (xo 21 (.mkSl [.int .i64 0,.nil,.nil,.int .i64 0] 1 [(0,.t 20)])) (.only 6 [1,0] (xA 22 4 64 17 21) (.only 7 [0,1] (xa 23 1 4) (.only 8 [0,1] (xS 1 23 22) (.done)))))))))))) (xr [xv 14 5,bI 15 .add 14 1,xv 5 15])))))) (.seq (kr [xm 24 4 4,xc1 25 233 (.t 24),xN 26 25] (kF 26 [xo 27 (.build [.nil,.nil,.nil,.nil] []),xS 4 2 27,xF 3])) (kR [xm 28 4 4,xS 4 2 28,xT 3]))))⟩
def m431:MFn:=⟨17,[.cell 0 1 true],kr [xo 0 (.alloc [.nil])] (kr [xo 3 (.build [.nil] []),xo 1 (.alloc [.nil]),xS 1 1 3] (.seq (kr [xI 2 0] (.blk 0 (.loop (.seq (kr [xv 4 2,bI 5 .lss 4 24] (kX 5 0)) (.seq (.blk 1 (.dreg (.take 0 (xa 8 0 1) (.take 1 (xl 9 8) (.only 2 [] (xo 10 (.mkS [xz] 8 (xi 24) (xi 24))) (.only 3 [] (xo 11 (.build [.int .i64 0,.nil] [(1,1,.t 10)])) (.only 4 [] (xo 12 (.mkSl [.int .i64 0,.nil] 1 [(0,.t 11)])) (.only 5 [] (xo 13 (.mkSl [.nil] 1 [(0,.t 12)])) (.only 6 [1,0] (xA 14 1 24 9 13) (.only 7 [0,1] (xa 15 0 1) (.only 8 [0,1] (xS 1 15 14) (.done)))))))))))) (xr [xv 6 2,bI 7 .add 6 1,xv 2 7])))))) (kR [xm 16 1 1,xS 1 0 16])))⟩
def w00:wR:=⟨0,z24⟩
def qQ6:List (List wR):=List.replicate 24 [w00]
def z8:List Int:=List.replicate 8 0
@[simp] theorem qYt:z8.length=8:=rfl
def k00:uE:=⟨0,z8,z24,0⟩
def iY:qK:=⟨[],[],⟨[]⟩,[]⟩
def bM (l:List (List yC)):qK:=⟨l,List.replicate l.length k00,⟨qQ6⟩,[]⟩
def xL (l:List (List yC)):qK×Bool:=if qX (bM l) then (bM l,true) else (iY,false)
theorem qTh (i:Nat):yP .own (List.replicate i [w00])++[[.sl .own 2 (yK .own [w00])]]=yP .own (List.replicate (i+1) [w00]):=by
 rw [List.replicate_succ']
 simp [yP]
theorem qGs (i:Nat):yP .own (List.replicate i [w00])++[[.sl .own 2 [[.int .i64 0,.sl .own 1 (wK z24)]]]]=yP .own (List.replicate (i+1) [w00]):=qTh i
theorem qQr (i:Nat):cores .own (List.replicate i k00)++[[.int .i64 0,.sl .own 1 (wK z8),.sl .own 1 (wK z24),.int .i64 0]]=cores .own (List.replicate (i+1) k00):=by
 rw [List.replicate_succ']
 simp [cores,mC,k00]
theorem qEm (i:Nat):cores .own (List.replicate i k00)++[[.int .i64 0,.sl .own 1 [[AV.int .i64 0],[AV.int .i64 0],[AV.int .i64 0],[AV.int .i64 0],[AV.int .i64 0],[AV.int .i64 0],[AV.int .i64 0],[AV.int .i64 0]],.sl .own 1 [[AV.int .i64 0],[AV.int .i64 0],[AV.int .i64 0],[AV.int .i64 0],[AV.int .i64 0],[AV.int .i64 0],[AV.int .i64 0],[AV.int .i64 0],[AV.int .i64 0],[AV.int .i64 0],[AV.int .i64 0],[AV.int .i64 0],[AV.int .i64 0],[AV.int .i64 0],[AV.int .i64 0],[AV.int .i64 0],[AV.int .i64 0],[AV.int .i64 0],[AV.int .i64 0],[AV.int .i64 0],[AV.int .i64 0],[AV.int .i64 0],[AV.int .i64 0],[AV.int .i64 0]],.int .i64 0]]=cores .own (List.replicate (i+1) k00):=qQr i
theorem tQ {l:List (List yC)} (h1:l.length<2^40) (h2 :∀c∈l,c.length<2^40):aG (bM l):=by
 refine ⟨h1,h2,by simp [bM]; omega,fun k hk=>?_,fun k hk=>?_,⟨by simp [bM,qQ6],fun c hc=>?_,fun c hc w hw=>?_⟩,by simp [bM]⟩
 ·rw [List.eq_of_mem_replicate hk]
  simp [k00]
 ·rw [List.eq_of_mem_replicate hk]
  simp [k00]
 ·rw [List.eq_of_mem_replicate hc]
  simp
 ·rw [List.eq_of_mem_replicate hc,List.mem_singleton] at hw
  rw [hw]
  simp [w00]
attribute [simp] bM
attribute [go_sem] bM
theorem qCj:qZ Tryz.prog num 431 [] [] (.agg (vV .own ⟨qQ6⟩)):=by
 refine EN m431 Tryz.func182 ?_
 unfold m431
 simp only [go_sem,seval]
 refine wC (ι:=Nat) (fun i=>.mk [(0,.ptr 10 0 0),(1,.ptr 11 0 0),(2,.int .i64 i)] [(10,1,[[.nil]]),(11,1,[[.sl .own 1 (yP .own (List.replicate i [w00]))]])] 12) (fun i=>i≤24) (fun i=>24-i) 0 (by simp) ?_ ?_
 ·refine Sub.shape [] id (by omega) ?_ ?_ ?_ ?_<;>simp [qP]
 ·rintro i hi
  simp only [go_sem,seval]
  refine qS (fun hc=>?_) (fun hc=>?_)
  ·simp only [decide_eq_true_eq] at hc
   have hl':i<24:=by omega
   have hlt:(List.replicate i [w00]).length=i:=by simp
   simp only [go_sem,seval,qR (i:=i) (by omega),hlt,cB]
   repeat refine K ?_
   refine qT (i+1) ?_ hl' (by omega)
   refine Sub.trans (Sub.fold1 14 1 13 rfl (by simp [-gD]<;>omega) rfl (by decide) (by decide) rfl) ?_
   simp only [fS,fS2,qA,qC]
   refine Sub.trans (Sub.foldLast 16 0 14 rfl (by simp [-gD]<;>omega) rfl (by decide) (by decide) rfl) ?_
   simp only [fS,fS2,qA,qC,qGs]
   refine Sub.trans (Sub.fold1 11 0 16 rfl (by simp [-gD]<;>omega) rfl (by decide) (by decide) rfl) ?_
   simp only [fS,fS2,qA,qC]
   refine Sub.shape [] id (by omega) ?_ ?_ ?_ ?_<;>simp [qP]
   exact qGs i
  ·simp only [decide_eq_false_iff_not] at hc
   obtain rfl:i=24:=by omega
   simp only [go_sem,seval]
   refine ⟨_,Sub.refl _,yJ ?_⟩; simp [-List.drop_one]
   simp [qQ6]
theorem cV (l:List (List yC)) (h1:l.length<2^40) (h2 :∀c∈l,c.length<2^40):qZ Tryz.prog num 415 [.sl .bw 1 (codes .bw l)] [] (.tup [.agg (qN .own (xL l).1),.bool (xL l).2]):=by
 have hsm:=tQ h1 h2
 refine EN m415 Tryz.func137 ?_
 unfold m415
 simp only [go_sem,seval]
 refine CA [] (qGz l h1 h2) ?_
 try simp only [go_sem,seval]
 refine CA [] (qCj) ?_
 try simp only [go_sem,seval]
 refine wC (ι:=Nat) (fun i=>.mk [(0,.sl .bw 1 (codes .bw l)),(2,.ptr 10 0 0),(4,.ptr 11 0 0),(5,.int .i64 i)] [(10,4,[[.nil,.nil,.nil,.nil]]),(11,4,[[.sl .own 1 (codes .own l),.sl .own 4 (cores .own (List.replicate i k00)),.sl .own 1 (yP .own qQ6),.sl .own 2 (jG [])]])] 12) (fun i=>i≤l.length) (fun i=>l.length-i) 0 (by simp) ?_ ?_
 ·refine Sub.trans (Sub.fold1 13 0 11 rfl (by simp [-gD]<;>omega) rfl (by decide) (by decide) rfl) ?_
  simp only [fS,fS2,qA,qC]
  refine Sub.trans (Sub.fold1 13 2 12 rfl (by simp [-gD]<;>omega) rfl (by decide) (by decide) rfl) ?_
  simp only [fS,fS2,qA,qC]
  refine Sub.shape [] (fun n=>if n=11 then 13 else n) (by omega) ?_ ?_ ?_ ?_<;>simp [qP]
 ·rintro i hi
  simp only [go_sem,seval]
  refine qS (fun hc=>?_) (fun hc=>?_)
  ·simp only [decide_eq_true_eq] at hc
   have hl':i<l.length:=by omega
   have hlt:(List.replicate i k00).length=i:=by simp
   simp only [go_sem,seval,qR (i:=i) (by omega),hlt]
   repeat refine K ?_
   refine ⟨?_,?_⟩
   ·repeat refine K ?_
    refine qT (i+1) ?_ hl' (by omega)
    refine Sub.trans (Sub.foldLast 16 1 13 rfl (by simp [-gD]<;>omega) rfl (by decide) (by decide) rfl) ?_
    simp only [fS,fS2,qA,qC]
    refine Sub.trans (Sub.foldLast 16 2 14 rfl (by simp [-gD]<;>omega) rfl (by decide) (by decide) rfl) ?_
    simp only [fS,fS2,qA,qC,qEm]
    refine Sub.trans (Sub.fold1 11 1 16 rfl (by simp [-gD]<;>omega) rfl (by decide) (by decide) rfl) ?_
    simp only [fS,fS2,qA,qC]
    refine Sub.shape [] id (by omega) ?_ ?_ ?_ ?_<;>simp [qP]
   ·repeat refine K ?_
    refine qT (i+1) ?_ hl' (by omega)
    refine Sub.trans (Sub.foldLast 16 1 14 rfl (by simp [-gD]<;>omega) rfl (by decide) (by decide) rfl) ?_
    simp only [fS,fS2,qA,qC]
    refine Sub.trans (Sub.foldLast 16 2 13 rfl (by simp [-gD]<;>omega) rfl (by decide) (by decide) rfl) ?_
    simp only [fS,fS2,qA,qC,qEm]
    refine Sub.trans (Sub.fold1 11 1 16 rfl (by simp [-gD]<;>omega) rfl (by decide) (by decide) rfl) ?_
    simp only [fS,fS2,qA,qC]
    refine Sub.shape [] id (by omega) ?_ ?_ ?_ ?_<;>simp [qP]
  ·simp only [decide_eq_false_iff_not] at hc
   obtain rfl:i=l.length:=by omega
   simp only [go_sem,seval]
   have hbw:bwR []=([]:List (List AV)):=rfl
   refine CA [] (xH (bM l) hsm) ?_
   try simp only [go_sem,seval]
   cases hk:qX (bM l)
   ·have hr:xL l=(iY,false):=by unfold xL; rw [hk]; rfl
    rw [hr]
    simp only [bM] at hk
    try simp only [go_sem,seval,hk]
    refine ⟨_,Sub.refl _,vT (by simp) ?_⟩; simp [-List.drop_one]
    simp [iY]
   ·have hr:xL l=(bM l,true):=by unfold xL; rw [hk]; rfl
    rw [hr]
    simp only [bM] at hk
    try simp only [go_sem,seval,hk]
    refine ⟨_,Sub.refl _,vT (by simp) ?_⟩; simp [-List.drop_one]
def m391:MFn:=⟨23,[.cell 2 4 true,.t 3],kr [xb 1 0,xo 2 (.alloc [.nil,.nil,.nil,.nil]),xF 3] (kr [xm 9 2 1,xc1 10 162 (.t 9),xv 8 10,xX 11 8 0,xX 12 8 1,xv 4 11,xv 5 12] (.seq (kr [xv 13 5,xN 14 13] (kF 14 [xo 15 (.build [.nil,.nil,.nil,.nil] []),xS 4 2 15,xF 3])) (kr [xv 17 4,xc1 18 415 (.t 17),xv 16 18,xX 19 16 0,xX 20 16 1,xo 6 (.alloc [.nil,.nil,.nil,.nil]),xS 4 6 19,xv 7 20] (kR [xm 21 4 6,xv 22 7,xS 4 2 21,xv 3 22]))))⟩
def cF (p:wV):qK×Bool:=if (aC p).2 then xL (aC p).1 else (iY,false)
theorem qIk (p:wV) (hp:zX p):qZ Tryz.prog num 391 [.agg (vC .bw p)] [] (.tup [.agg (qN .own (cF p).1),.bool (cF p).2]):=by
 refine EN m391 Tryz.func68 ?_
 unfold m391
 obtain ⟨c1,c2⟩:=qJb p
 simp only [go_sem,seval]
 refine CA [] (qFw p hp) ?_
 try simp only [go_sem,seval]
 unfold cF
 generalize aC p=w at *
 cases h2:w.2
 ·try simp only [go_sem,seval,h2]
  refine ⟨_,Sub.refl _,vT (by simp) ?_⟩; simp [-List.drop_one]
  simp [iY]
 ·try simp only [go_sem,seval,h2]
  refine CA [] (cV w.1 (by omega) (fun c hc=>by have:=c2 c hc; omega)) ?_
  try simp only [go_sem,seval]
  refine ⟨_,Sub.refl _,vT (by simp) ?_⟩; simp [-List.drop_one]
def m400:MFn:=⟨22,[.cell 4 4 true],kr [xb 2 0,xb 3 1,xo 4 (.alloc [.nil,.nil,.nil,.nil])] (.seq (kr [xm 5 4 3,xc1 6 233 (.t 5),xN 7 6,xv 8 7,za 9 1 3 8,zl 10 1 9 8,ze 11 10 8,za 12 1 2 8,zl 13 1 12 8,ze 14 13 8,xg 15 (.bin .neq (.t 11) (.t 14)) 8 false,xQ 16 8 15] (kF 16 [xo 17 (.build [.nil,.nil,.nil,.nil] []),xS 4 4 17])) (.seq (.dreg (.take 0 (xm 18 2 2) (.only 1 [] (xm 19 4 3) (.only 2 [] (xc1 20 356 (.t 19)) (.only 3 [0] (xo 21 (.call 425 [false,true] [.t 18,.t 20])) (.only 4 [0] (xS 4 4 21) (.done))))))) (.ret)))⟩
def m401:MFn:=⟨16,[.cell 4 4 true],kr [xb 2 0,xb 3 1,xo 4 (.alloc [.nil,.nil,.nil,.nil])] (.seq (kr [xm 6 2 2,xm 7 4 3,xc2 8 426 (.t 6) (.t 7),xN 9 8] (kF 9 [xo 10 (.build [.nil,.nil,.nil,.nil] []),xS 4 4 10])) (kr [xm 11 4 3,xc1 12 358 (.t 11),xo 5 (.alloc [.nil,.nil,.nil,.nil]),xS 4 5 12] (kr [xm 13 2 2,xo 14 (.call 427 [true,false] [.t 5,.t 13])] (kR [xm 15 4 5,xS 4 4 15]))))⟩
def m426:MFn:=⟨16,[.t 4],kr [xb 2 0,xb 3 1,xF 4] (kR [xm 5 4 3,xc1 6 235 (.t 5),xv 7 6,ya 8 1 3 7,yl 9 1 8 7,ye 10 9 7,ya 11 1 2 7,yl 12 1 11 7,ye 13 12 7,xg 14 (.bin .eql (.t 10) (.t 13)) 7 true,xP 15 7 14,xv 4 15])⟩
def aI (p:wV) (m:qK):qK:=if qX m&&decide (m.cores.length=p.bods.length) then fF p m.cores.length 4 m else iY
theorem qWy (p:wV) (m:qK):pF (aI p m)≤4000000:=by
 unfold aI
 split
 ·rename_i h
  simp only [Bool.and_eq_true] at h
  exact qE9 (qB3 p _ 4 h.1).1
 ·decide
theorem qDz (p:wV) (m:qK) (hm:aG m):qZ Tryz.prog num 426 [.agg (vC .bw p),.agg (qN .bw m)] [] (.bool (qX m&&decide (m.cores.length=p.bods.length))):=by
 refine EN m426 Tryz.func83 ?_
 unfold m426
 simp only [go_sem,seval]
 refine CA [] (fO m hm) ?_
 try simp only [go_sem,seval]
 cases hok:qX m
 ·try simp only [go_sem,seval,hok]
  refine fz ?_; simp [wJ,wA,wB,qY,-List.drop_one]
 by_cases hl:(m.cores.length:Int)=p.bods.length
 ·try simp only [go_sem,seval,hok,hl]
  refine fz ?_; simp [wJ,wA,wB,qY,-List.drop_one]
  omega
 ·try simp only [go_sem,seval,hok,hl]
  refine fz ?_; simp [wJ,wA,wB,qY,-List.drop_one]
  omega
theorem rI (p:wV) (m:qK) (hp:zX p) (hm:aG m):qZ Tryz.prog num 401 [.agg (vC .bw p),.agg (qN .bw m)] [] (.agg (qN .own (aI p m))):=by
 refine EN m401 Tryz.func31 ?_
 unfold m401
 simp only [go_sem,seval]
 refine CA [] (qDz p m hm) ?_
 try simp only [go_sem,seval]
 cases hok:(qX m&&decide (m.cores.length=p.bods.length))
 ·have hr:aI p m=iY:=by unfold aI; rw [hok]; rfl
  rw [hr]
  try simp only [go_sem,seval,hok]
  refine ⟨_,Sub.refl _,yJ ?_⟩; simp [-List.drop_one]
  simp [iY]
 have hr:aI p m=fF p m.cores.length 4 m:=by unfold aI; rw [hok]; rfl
 rw [hr]
 have hMo:qX m=true:=by simp only [Bool.and_eq_true] at hok; exact hok.1
 try simp only [go_sem,seval,hok]
 refine CA [] (rQ m hm) ?_
 try simp only [go_sem,seval]
 apply xM
 ·refine Sub.trans (Sub.fold1 17 0 13 rfl (by simp [-gD]<;>omega) rfl (by decide) (by decide) rfl) ?_
  simp only [fS,fS2,qA,qC]
  refine Sub.trans (Sub.fold1 17 1 14 rfl (by simp [-gD]<;>omega) rfl (by decide) (by decide) rfl) ?_
  simp only [fS,fS2,qA,qC]
  refine Sub.trans (Sub.fold1 17 2 15 rfl (by simp [-gD]<;>omega) rfl (by decide) (by decide) rfl) ?_
  simp only [fS,fS2,qA,qC]
  refine Sub.trans (Sub.fold1 17 3 16 rfl (by simp [-gD]<;>omega) rfl (by decide) (by decide) rfl) ?_
  simp only [fS,fS2,qA,qC]
  exact Sub.refl _
 refine CA [(0,17)] (qEf p m hp hMo) ?_
 try simp only [go_sem,seval]
 refine ⟨_,Sub.refl _,yJ ?_⟩; simp [-List.drop_one]
theorem qFv (p:wV) (m:qK) (hp:zX p) (hm:aG m):qZ Tryz.prog num 400 [.agg (vC .bw p),.agg (qN .bw m)] [] (.agg (qN .own (aI p m))):=by
 refine EN m400 Tryz.func37 ?_
 unfold m400
 simp only [go_sem,seval]
 refine CA [] (xH m hm) ?_
 try simp only [go_sem,seval]
 cases hok:qX m
 ·have hr:aI p m=iY:=by unfold aI; rw [hok]; rfl
  rw [hr]
  try simp only [go_sem,seval,hok]
  refine ⟨_,Sub.refl _,yJ ?_⟩; simp [-List.drop_one]
  simp [iY]
 by_cases hl:(m.cores.length:Int)=p.bods.length
 case neg =>
  have hl' :¬m.cores.length=p.bods.length:=by omega
  have hr:aI p m=iY:=by simp [aI,hl']
  rw [hr]
  try simp only [go_sem,seval,hok,hl]
  refine ⟨_,Sub.refl _,yJ ?_⟩; simp [-List.drop_one]
  simp [iY]
 have hl':m.cores.length=p.bods.length:=by omega
 have hr:aI p m=fF p m.cores.length 4 m:=by simp [aI,hok,hl']
 rw [hr]
 try simp only [go_sem,seval,hok,hl]
 repeat refine K ?_
 refine DA [] (qD6 m hm) ?_
 try simp only [go_sem,seval]
 refine DA [(0,13),(1,14),(2,15),(3,16)] (qH0 p m hp hok) ?_
 try simp only [go_sem,seval]
 refine ⟨_,Sub.refl _,yJ ?_⟩; simp [-List.drop_one]
end Go.Sep
