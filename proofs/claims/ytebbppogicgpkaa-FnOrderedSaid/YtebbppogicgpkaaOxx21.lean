/- Contracts of functions. -/
import Derived.Test.YtebbppogicgpkaaOxx20
namespace Go.Sep
set_option maxHeartbeats 16000000
open Go.Proofs
set_option linter.unusedSimpArgs false
set_option linter.unusedVariables false
set_option maxRecDepth 100000
open Nat renaming reduceAdd → qA, reduceMul → qB, reduceEqDiff → qC, reduceBEq → qD
open Int renaming reduceToNat → qE, reduceEq → qF, reduceLT → qG, reduceLE → qH
open List renaming getD_eq_getElem?_getD → gD
def m416:MFn:=⟨37,[.cell 2 4 true,.t 3],kr [xo 2 (.alloc [.nil,.nil,.nil,.nil]),xF 3] (kr [xo 7 (.call 432 [] []),xo 8 (.build [.nil,.nil,.nil,.nil] [(2,1,.t 7)]),xo 4 (.alloc [.nil,.nil,.nil,.nil]),xS 4 4 8] (.seq (kr [xv 9 0,xe 10 9,xI 11 0] (.blk 0 (.loop (kr [bT 12 .lss 11 10] (.seq (kX 12 0) (.seq (.blk 1 (kr [xD 13 1 9 11,xl 14 13,xv 6 14] (.seq (.dreg (.take 0 (xa 15 0 4) (.take 1 (xl 16 15) (.take 3 (xv 18 6) (.only 2 [] (xo 17 (.mkSl [xz,xz,xz,xz,xz] 0 [])) (.only 4 [3] (xA 19 5 40 17 18) (.only 5 [4,3] (xo 20 (.mkSl [.nil] 1 [(0,.t 19)])) (.only 6 [1,4,0,3] (xA 21 1 24 16 20) (.only 7 [0,1,3] (xa 22 0 4) (.only 8 [0,1,3] (xS 1 22 21) (.done))))))))))) (.dreg (.take 0 (xa 23 1 4) (.take 1 (xl 24 23) (.both 2 [] (xo 25 (.mkS [xz] 8 (xi 8) (xi 8))) (.only 3 [] (xo 26 (.mkS [xz] 8 (xi 24) (xi 24))) (.only 4 [] (xo 27 (.build [.int .i64 0,.nil,.nil,.int .i64 0] [(1,1,.t 25),(2,1,.t 26)])) (.only 5 [] (xo 28 (.mkSl [.int .i64 0,.nil,.nil,.int .i64 0] 1 [(0,.t 27)])) (.only 6 [1,0] (xA 29 4 64 24 28) (.only 7 [0,1] (xa 30 1 4) (.only 8 [0,1] (xS 1 30 29) (.done))))))) 3 [] (xo 26 (.mkS [xz] 8 (xi 24) (xi 24))) (.only 2 [] (xo 25 (.mkS [xz] 8 (xi 8) (xi 8))) (.only 4 [] (xo 27 (.build [.int .i64 0,.nil,.nil,.int .i64 0] [(1,1,.t 25),(2,1,.t 26)])) (.only 5 [] (xo 28 (.mkSl [.int .i64 0,.nil,.nil,.int .i64 0] 1 [(0,.t 27)])) (.only 6 [1,0] (xA 29 4 64 24 28) (.only 7 [0,1] (xa 30 1 4) (.only 8 [0,1] (xS 1 30 29) (.done)))))))))))))) (xr [bI 31 .add 11 1,xv 11 31]))))))) (.seq (kr [xm 32 4 4,xc1 33 235 (.t 32),xN 34 33] (kF 34 [xo 35 (.build [.nil,.nil,.nil,.nil] []),xS 4 2 35,xF 3])) (kR [xm 36 4 4,xS 4 2 36,xT 3]))))⟩
def m432:MFn:=⟨15,[.cell 0 1 true],kr [xo 0 (.alloc [.nil])] (kr [xo 2 (.build [.nil] []),xo 1 (.alloc [.nil]),xS 1 1 2] (.seq (kr [xI 3 0] (.blk 0 (.loop (kr [bI 4 .lss 3 24] (.seq (kX 4 0) (.seq (.blk 1 (.dreg (.take 0 (xa 5 0 1) (.take 1 (xl 6 5) (.only 2 [] (xo 7 (.mkS [xz] 8 (xi 24) (xi 24))) (.only 3 [] (xo 8 (.build [.int .i64 0,.nil] [(1,1,.t 7)])) (.only 4 [] (xo 9 (.mkSl [.int .i64 0,.nil] 1 [(0,.t 8)])) (.only 5 [] (xo 10 (.mkSl [.nil] 1 [(0,.t 9)])) (.only 6 [1,0] (xA 11 1 24 6 10) (.only 7 [0,1] (xa 12 0 1) (.only 8 [0,1] (xS 1 12 11) (.done)))))))))))) (xr [bI 13 .add 3 1,xv 3 13]))))))) (kR [xm 14 1 1,xS 1 0 14])))⟩
def w00:wO:=⟨0,z24⟩
def qJ6:List (List wO):=List.replicate 24 [w00]
def z8:List Int:=List.replicate 8 0
@[simp] theorem qVd:z8.length=8:=rfl
def k00:vK:=⟨0,z8,z24,0⟩
def qB0:qK:=⟨[],[],⟨[]⟩,[]⟩
def dY (l:List (List wX)):qK:=⟨l,List.replicate l.length k00,⟨qJ6⟩,[]⟩
def aX (l:List (List wX)):qK×Bool:=if wJ (dY l) then (dY l,true) else (qB0,false)
theorem qQ4 (i:Nat):jT .own (List.replicate i [w00])++[[.sl .own 2 (yX .own [w00])]]=jT .own (List.replicate (i+1) [w00]):=by
 rw [List.replicate_succ']
 simp [jT]
theorem qEg (i:Nat):jT .own (List.replicate i [w00])++[[.sl .own 2 [[.int .i64 0,.sl .own 1 (wT z24)]]]]=jT .own (List.replicate (i+1) [w00]):=qQ4 i
theorem qNe (i:Nat):cores .own (List.replicate i k00)++[[.int .i64 0,.sl .own 1 (wT z8),.sl .own 1 (wT z24),.int .i64 0]]=cores .own (List.replicate (i+1) k00):=by
 rw [List.replicate_succ']
 simp [cores,nF,k00]
theorem qCc (i:Nat):cores .own (List.replicate i k00)++[[.int .i64 0,.sl .own 1 [[AV.int .i64 0],[AV.int .i64 0],[AV.int .i64 0],[AV.int .i64 0],[AV.int .i64 0],[AV.int .i64 0],[AV.int .i64 0],[AV.int .i64 0]],.sl .own 1 [[AV.int .i64 0],[AV.int .i64 0],[AV.int .i64 0],[AV.int .i64 0],[AV.int .i64 0],[AV.int .i64 0],[AV.int .i64 0],[AV.int .i64 0],[AV.int .i64 0],[AV.int .i64 0],[AV.int .i64 0],[AV.int .i64 0],[AV.int .i64 0],[AV.int .i64 0],[AV.int .i64 0],[AV.int .i64 0],[AV.int .i64 0],[AV.int .i64 0],[AV.int .i64 0],[AV.int .i64 0],[AV.int .i64 0],[AV.int .i64 0],[AV.int .i64 0],[AV.int .i64 0]],.int .i64 0]]=cores .own (List.replicate (i+1) k00):=qNe i
theorem qGc {l:List (List wX)} (h1:l.length<2^40) (h2 :∀c∈l,c.length<2^40):sG (dY l):=by
 refine ⟨h1,h2,by simp [dY]; omega,fun k hk=>?_,fun k hk=>?_,⟨by simp [dY,qJ6],fun c hc=>?_,fun c hc w hw=>?_⟩,by simp [dY]⟩
 ·rw [List.eq_of_mem_replicate hk]
  simp [k00]
 ·rw [List.eq_of_mem_replicate hk]
  simp [k00]
 ·rw [List.eq_of_mem_replicate hc]
  simp
 ·rw [List.eq_of_mem_replicate hc,List.mem_singleton] at hw
  rw [hw]
  simp [w00]
attribute [simp] dY
attribute [go_sem] dY
theorem qB8:wD Try.prog num 432 [] [] (.agg (dX .own ⟨qJ6⟩)):=by
 refine EN m432 Try.func34 ?_
 unfold m432
 simp only [go_sem,seval]
 refine wL (ι:=Nat) (fun i=>.mk [(0,.ptr 10 0 0),(1,.ptr 11 0 0),(3,.int .i64 i)] [(10,1,[[.nil]]),(11,1,[[.sl .own 1 (jT .own (List.replicate i [w00]))]])] 12) (fun i=>i≤24) (fun i=>24-i) 0 (by simp) ?_ ?_
 ·refine Sub.shape [] id (by omega) ?_ ?_ ?_ ?_<;>simp [qP]
 ·rintro i hi
  simp only [go_sem,seval]
  refine qT (fun hc=>?_) (fun hc=>?_)
  ·simp only [decide_eq_true_eq] at hc
   have hl':i<24:=by omega
   have hlt:(List.replicate i [w00]).length=i:=by simp
   simp only [go_sem,seval,wB (i:=i) (by omega),hlt,lV]
   repeat refine K ?_
   refine wC (i+1) ?_ hl' (by omega)
   refine Sub.trans (Sub.fold1 14 1 13 rfl (by simp [-gD]<;>omega) rfl (by decide) (by decide) rfl) ?_
   simp only [fS,fS2,qA,qC]
   refine Sub.trans (Sub.foldLast 16 0 14 rfl (by simp [-gD]<;>omega) rfl (by decide) (by decide) rfl) ?_
   simp only [fS,fS2,qA,qC,qEg]
   refine Sub.trans (Sub.fold1 11 0 16 rfl (by simp [-gD]<;>omega) rfl (by decide) (by decide) rfl) ?_
   simp only [fS,fS2,qA,qC]
   refine Sub.shape [] id (by omega) ?_ ?_ ?_ ?_<;>simp [qP]
   exact qEg i
  ·simp only [decide_eq_false_iff_not] at hc
   obtain rfl:i=24:=by omega
   simp only [go_sem,seval]
   refine ⟨_,Sub.refl _,dN ?_⟩; simp [-List.drop_one]
   simp [qJ6]
theorem tR (l:List (List wX)) (h1:l.length<2^40) (h2 :∀c∈l,c.length<2^40):wD Try.prog num 416 [.sl .bw 1 (codes .bw l)] [] (.tup [.agg (qS .own (aX l).1),.bool (aX l).2]):=by
 have hsm:=qGc h1 h2
 refine EN m416 Try.func18 ?_
 unfold m416
 simp only [go_sem,seval]
 refine CA [] (qB8) ?_
 try simp only [go_sem,seval]
 refine wL (ι:=Nat) (fun i=>.mk [(2,.ptr 10 0 0),(4,.ptr 11 0 0),(9,.sl .bw 1 (codes .bw l)),(10,.int .i64 l.length),(11,.int .i64 i)] [(10,4,[[.nil,.nil,.nil,.nil]]),(11,4,[[.sl .own 1 (codes .own (l.take i)),.sl .own 4 (cores .own (List.replicate i k00)),.sl .own 1 (jT .own qJ6),.sl .own 2 (yW [])]])] 12) (fun i=>i≤l.length) (fun i=>l.length-i) 0 (by simp) ?_ ?_
 ·refine Sub.trans (Sub.fold1 12 2 11 rfl (by simp [-gD]<;>omega) rfl (by decide) (by decide) rfl) ?_
  simp only [fS,fS2,qA,qC]
  refine Sub.shape [] (fun n=>if n=11 then 12 else n) (by omega) ?_ ?_ ?_ ?_<;>simp [qP]
 ·rintro i hi
  simp only [go_sem,seval]
  refine qT (fun hc=>?_) (fun hc=>?_)
  ·simp only [decide_eq_true_eq] at hc
   have hl':i<l.length:=by omega
   have hlt:(List.replicate i k00).length=i:=by simp
   have hlt2:(l.take i).length=i:=by simp; omega
   have hr:=h2 _ (yQ l i [] hl')
   simp only [go_sem,seval,wB (i:=i) (by omega),iO .bw l i hl',hlt,hlt2]
   repeat refine K ?_
   refine ⟨?_,?_⟩
   ·repeat refine K ?_
    refine wC (i+1) ?_ hl' (by omega)
    refine Sub.trans (Sub.foldLast 16 0 14 rfl (by simp [-gD]<;>omega) rfl (by decide) (by decide) rfl) ?_
    simp only [fS,fS2,qA,qC,sC l i hl']
    refine Sub.trans (Sub.fold1 11 0 16 rfl (by simp [-gD]<;>omega) rfl (by decide) (by decide) rfl) ?_
    simp only [fS,fS2,qA,qC,List.length_take,Nat.min_eq_left (show i+1≤l.length from hl')]
    refine Sub.trans (Sub.foldLast 21 1 18 rfl (by simp [-gD]<;>omega) rfl (by decide) (by decide) rfl) ?_
    simp only [fS,fS2,qA,qC]
    refine Sub.trans (Sub.foldLast 21 2 19 rfl (by simp [-gD]<;>omega) rfl (by decide) (by decide) rfl) ?_
    simp only [fS,fS2,qA,qC,qCc]
    refine Sub.trans (Sub.fold1 11 1 21 rfl (by simp [-gD]<;>omega) rfl (by decide) (by decide) rfl) ?_
    simp only [fS,fS2,qA,qC]
    refine Sub.shape [] id (by omega) ?_ ?_ ?_ ?_<;>simp [qP]
   ·repeat refine K ?_
    refine wC (i+1) ?_ hl' (by omega)
    refine Sub.trans (Sub.foldLast 16 0 14 rfl (by simp [-gD]<;>omega) rfl (by decide) (by decide) rfl) ?_
    simp only [fS,fS2,qA,qC,sC l i hl']
    refine Sub.trans (Sub.fold1 11 0 16 rfl (by simp [-gD]<;>omega) rfl (by decide) (by decide) rfl) ?_
    simp only [fS,fS2,qA,qC,List.length_take,Nat.min_eq_left (show i+1≤l.length from hl')]
    refine Sub.trans (Sub.foldLast 21 1 19 rfl (by simp [-gD]<;>omega) rfl (by decide) (by decide) rfl) ?_
    simp only [fS,fS2,qA,qC]
    refine Sub.trans (Sub.foldLast 21 2 18 rfl (by simp [-gD]<;>omega) rfl (by decide) (by decide) rfl) ?_
    simp only [fS,fS2,qA,qC,qCc]
    refine Sub.trans (Sub.fold1 11 1 21 rfl (by simp [-gD]<;>omega) rfl (by decide) (by decide) rfl) ?_
    simp only [fS,fS2,qA,qC]
    refine Sub.shape [] id (by omega) ?_ ?_ ?_ ?_<;>simp [qP]
  ·simp only [decide_eq_false_iff_not] at hc
   obtain rfl:i=l.length:=by omega
   have hie:l.take l.length=l:=List.take_length
   simp only [go_sem,seval,hie]
   have hbw:bwR []=([]:List (List AV)):=rfl
   refine CA [] (lO (dY l) hsm) ?_
   try simp only [go_sem,seval]
   cases hk:wJ (dY l)
   ·have hr:aX l=(qB0,false):=by unfold aX; rw [hk]; rfl
    rw [hr]
    simp only [dY] at hk
    try simp only [go_sem,seval,hk]
    refine ⟨_,Sub.refl _,jM (by simp) ?_⟩; simp [-List.drop_one]
    simp [qB0]
   ·have hr:aX l=(dY l,true):=by unfold aX; rw [hk]; rfl
    rw [hr]
    simp only [dY] at hk
    try simp only [go_sem,seval,hk]
    refine ⟨_,Sub.refl _,jM (by simp) ?_⟩; simp [-List.drop_one]
def m392:MFn:=⟨18,[.cell 2 4 true,.t 3],kr [xb 1 0,xo 2 (.alloc [.nil,.nil,.nil,.nil]),xF 3] (kr [xm 7 2 1,xc1 8 163 (.t 7),xv 6 8,xX 9 6 0,xX 10 6 1,xv 4 9,xv 5 10] (.seq (kr [xv 11 5,xN 12 11] (kF 12 [xo 13 (.build [.nil,.nil,.nil,.nil] []),xS 4 2 13,xF 3])) (kR [xv 14 4,xc1 15 416 (.t 14),xX 16 15 0,xX 17 15 1,xS 4 2 16,xv 3 17])))⟩
def launch (p:wN):qK×Bool:=if (dZ p).2 then aX (dZ p).1 else (qB0,false)
theorem qGi (p:wN) (hp:xE p):wD Try.prog num 392 [.agg (vP .bw p)] [] (.tup [.agg (qS .own (launch p).1),.bool (launch p).2]):=by
 refine EN m392 Try.func9 ?_
 unfold m392
 obtain ⟨c1,c2⟩:=qGq p
 simp only [go_sem,seval]
 refine CA [] (qEx p hp) ?_
 try simp only [go_sem,seval]
 unfold launch
 generalize dZ p=w at *
 cases h2:w.2
 ·try simp only [go_sem,seval,h2]
  refine ⟨_,Sub.refl _,jM (by simp) ?_⟩; simp [-List.drop_one]
  simp [qB0]
 ·try simp only [go_sem,seval,h2]
  refine CA [] (tR w.1 (by omega) (fun c hc=>by have:=c2 c hc; omega)) ?_
  try simp only [go_sem,seval]
  refine ⟨_,Sub.refl _,jM (by simp) ?_⟩; simp [-List.drop_one]
def m426:MFn:=⟨16,[.t 4],kr [xb 2 0,xb 3 1,xF 4] (kR [xm 5 4 3,xc1 6 235 (.t 5),xv 7 6,ya 8 1 3 7,yl 9 1 8 7,ye 10 9 7,ya 11 1 2 7,yl 12 1 11 7,ye 13 12 7,xg 14 (.bin .eql (.t 10) (.t 13)) 7 true,xP 15 7 14,xv 4 15])⟩
theorem qKf (p:wN) (m:qK) (hm:sG m):wD Try.prog num 426 [.agg (vP .bw p),.agg (qS .bw m)] [] (.bool (wJ m&&decide (m.cores.length=p.bods.length))):=by
 refine EN m426 Try.func13 ?_
 unfold m426
 simp only [go_sem,seval]
 refine CA [] (lO m hm) ?_
 try simp only [go_sem,seval]
 cases hok:wJ m
 ·try simp only [go_sem,seval,hok]
  refine fz ?_; simp [yB,qW,qZ,wG,-List.drop_one]
 by_cases hl:(m.cores.length:Int)=p.bods.length
 ·try simp only [go_sem,seval,hok,hl]
  refine fz ?_; simp [yB,qW,qZ,wG,-List.drop_one]
  omega
 ·try simp only [go_sem,seval,hok,hl]
  refine fz ?_; simp [yB,qW,qZ,wG,-List.drop_one]
  omega
end Go.Sep
