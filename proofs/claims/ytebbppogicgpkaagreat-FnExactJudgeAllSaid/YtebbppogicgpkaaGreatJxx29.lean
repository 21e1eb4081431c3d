/- Contracts of functions. -/
import Derived.Test.YtebbppogicgpkaaGreatJxx22
open List renaming drop_one → qYj, eq_of_mem_replicate → qYz, replicate → qWo
namespace Go.Sep
set_option maxHeartbeats 16000000
open Go.Proofs
set_option linter.unusedSimpArgs false
set_option linter.unusedVariables false
set_option maxRecDepth 100000
open Nat renaming reduceAdd → qA, reduceMul → qB, reduceEqDiff → qC, reduceBEq → qD
open Int renaming reduceToNat → qE, reduceEq → qF, reduceLT → qG, reduceLE → qH
open List renaming getD_eq_getElem?_getD → gD
def m415:MFn:=⟨29,[.cell 2 4 true,.t 3],kr [xo 2 (.alloc [.nil,.nil,.nil,.nil]),xF 3] (kr [xv 6 0,xc1 7 372 (.t 6),xo 8 (.call 431 [] []),xo 9 (.build [.nil,.nil,.nil,.nil] [(0,1,.t 7),(2,1,.t 8)]),xo 4 (.alloc [.nil,.nil,.nil,.nil]),xS 4 4 9] (.seq (kr [xI 5 0] (.blk 0 (.loop (.seq (kr [xv 10 5,xv 11 0,xe 12 11,bT 13 .lss 10 12] (kX 13 0)) (.seq (.blk 1 (.dreg (.take 0 (xa 16 1 4) (.take 1 (xl 17 16) (.both 2 [] (xo 18 (.mkS [xz] 8 (xi 8) (xi 8))) (.only 3 [] (xo 19 (.mkS [xz] 8 (xi 24) (xi 24))) (.only 4 [] (xo 20 (.build [.int .i64 0,.nil,.nil,.int .i64 0] [(1,1,.t 18),(2,1,.t 19)])) (.only 5 [] (xo 21 (.mkSl [.int .i64 0,.nil,.nil,.int .i64 0] 1 [(0,.t 20)])) (.only 6 [1,0] (xA 22 4 64 17 21) (.only 7 [0,1] (xa 23 1 4) (.only 8 [0,1] (xS 1 23 22) (.done))))))) 3 [] (xo 19 (.mkS [xz] 8 (xi 24) (xi 24))) (.only 2 [] (xo 18 (.mkS [xz] 8 (xi 8) (xi 8))) (.only 4 [] (xo 20 (.build [.int .i64 0,.nil,.nil,.int .i64 0] [(1,1,.t 18),(2,1,.t 19)])) (.only 5 [] (xo 21 (.mkSl [.int .i64 0,.nil,.nil,.int .i64 0] 1 [(0,.t 20)])) (.only 6 [1,0] (xA 22 4 64 17 21) (.only 7 [0,1] (xa 23 1 4) (.only 8 [0,1] (xS 1 23 22) (.done)))))))))))) (xr [xv 14 5,bI 15 .add 14 1,xv 5 15])))))) (.seq (kr [xm 24 4 4,xc1 25 233 (.t 24),xN 26 25] (kF 26 [xo 27 (.build [.nil,.nil,.nil,.nil] []),xS 4 2 27,xF 3])) (kR [xm 28 4 4,xS 4 2 28,xT 3]))))⟩
def m416:MFn:=⟨37,[.cell 2 4 true,.t 3],kr [xo 2 (.alloc [.nil,.nil,.nil,.nil]),xF 3] (kr [xo 7 (.call 432 [] []),xo 8 (.build [.nil,.nil,.nil,.nil] [(2,1,.t 7)]),xo 4 (.alloc [.nil,.nil,.nil,.nil]),xS 4 4 8] (.seq (kr [xv 9 0,xe 10 9,xI 11 0] (.blk 0 (.loop (kr [bT 12 .lss 11 10] (.seq (kX 12 0) (.seq (.blk 1 (kr [xD 13 1 9 11,xl 14 13,xv 6 14] (.seq (.dreg (.take 0 (xa 15 0 4) (.take 1 (xl 16 15) (.take 3 (xv 18 6) (.only 2 [] (xo 17 (.mkSl [xz,xz,xz,xz,xz] 0 [])) (.only 4 [3] (xA 19 5 40 17 18) (.only 5 [4,3] (xo 20 (.mkSl [.nil] 1 [(0,.t 19)])) (.only 6 [1,4,0,3] (xA 21 1 24 16 20) (.only 7 [0,1,3] (xa 22 0 4) (.only 8 [0,1,3] (xS 1 22 21) (.done))))))))))) (.dreg (.take 0 (xa 23 1 4) (.take 1 (xl 24 23) (.both 2 [] (xo 25 (.mkS [xz] 8 (xi 8) (xi 8))) (.only 3 [] (xo 26 (.mkS [xz] 8 (xi 24) (xi 24))) (.only 4 [] (xo 27 (.build [.int .i64 0,.nil,.nil,.int .i64 0] [(1,1,.t 25),(2,1,.t 26)])) (.only 5 [] (xo 28 (.mkSl [.int .i64 0,.nil,.nil,.int .i64 0] 1 [(0,.t 27)])) (.only 6 [1,0] (xA 29 4 64 24 28) (.only 7 [0,1] (xa 30 1 4) (.only 8 [0,1] (xS 1 30 29) (.done))))))) 3 [] (xo 26 (.mkS [xz] 8 (xi 24) (xi 24))) (.only 2 [] (xo 25 (.mkS [xz] 8 (xi 8) (xi 8))) (.only 4 [] (xo 27 (.build [.int .i64 0,.nil,.nil,.int .i64 0] [(1,1,.t 25),(2,1,.t 26)])) (.only 5 [] (xo 28 (.mkSl [.int .i64 0,.nil,.nil,.int .i64 0] 1 [(0,.t 27)])) (.only 6 [1,0] (xA 29 4 64 24 28) (.only 7 [0,1] (xa 30 1 4) (.only 8 [0,1] (xS 1 30 29) (.done)))))))))))))) (xr [bI 31 .add 11 1,xv 11 31]))))))) (.seq (kr [xm 32 4 4,xc1 33 235 (.t 32),xN 34 33] (kF 34 [xo 35 (.build [.nil,.nil,.nil,.nil] []),xS 4 2 35,xF 3])) (kR [xm 36 4 4,xS 4 2 36,xT 3]))))⟩
def m431:MFn:=⟨17,[.cell 0 1 true],kr [xo 0 (.alloc [.nil])] (kr [xo 3 (.build [.nil] []),xo 1 (.alloc [.nil]),xS 1 1 3] (.seq (kr [xI 2 0] (.blk 0 (.loop (.seq (kr [xv 4 2,bI 5 .lss 4 24] (kX 5 0)) (.seq (.blk 1 (.dreg (.take 0 (xa 8 0 1) (.take 1 (xl 9 8) (.only 2 [] (xo 10 (.mkS [xz] 8 (xi 24) (xi 24))) (.only 3 [] (xo 11 (.build [.int .i64 0,.nil] [(1,1,.t 10)])) (.only 4 [] (xo 12 (.mkSl [.int .i64 0,.nil] 1 [(0,.t 11)])) (.only 5 [] (xo 13 (.mkSl [.nil] 1 [(0,.t 12)])) (.only 6 [1,0] (xA 14 1 24 9 13) (.only 7 [0,1] (xa 15 0 1) (.only 8 [0,1] (xS 1 15 14) (.done)))))))))))) (xr [xv 6 2,bI 7 .add 6 1,xv 2 7])))))) (kR [xm 16 1 1,xS 1 0 16])))⟩
def m432:MFn:=⟨15,[.cell 0 1 true],kr [xo 0 (.alloc [.nil])] (kr [xo 2 (.build [.nil] []),xo 1 (.alloc [.nil]),xS 1 1 2] (.seq (kr [xI 3 0] (.blk 0 (.loop (kr [bI 4 .lss 3 24] (.seq (kX 4 0) (.seq (.blk 1 (.dreg (.take 0 (xa 5 0 1) (.take 1 (xl 6 5) (.only 2 [] (xo 7 (.mkS [xz] 8 (xi 24) (xi 24))) (.only 3 [] (xo 8 (.build [.int .i64 0,.nil] [(1,1,.t 7)])) (.only 4 [] (xo 9 (.mkSl [.int .i64 0,.nil] 1 [(0,.t 8)])) (.only 5 [] (xo 10 (.mkSl [.nil] 1 [(0,.t 9)])) (.only 6 [1,0] (xA 11 1 24 6 10) (.only 7 [0,1] (xa 12 0 1) (.only 8 [0,1] (xS 1 12 11) (.done)))))))))))) (xr [bI 13 .add 3 1,xv 3 13]))))))) (kR [xm 14 1 1,xS 1 0 14])))⟩
def w00:wX:=⟨0,z24⟩
def qF1:List (List wX):=qWo 24 [w00]
def z8:List Int:=qWo 8 0
@[simp] theorem qWf:z8.length=8:=rfl
def k00:bY:=⟨0,z8,z24,0⟩
def sB:wA:=⟨[],[],⟨[]⟩,[]⟩
def dE (l:List (List yH)):wA:=⟨l,qWo l.length k00,⟨qF1⟩,[]⟩
def dS (l:List (List yH)):wA×Bool:=if jG (dE l) then (dE l,true) else (sB,false)
theorem qRk (i:Nat):jR .own (qWo i [w00])++[[.sl .own 2 (vX .own [w00])]]=jR .own (qWo (i+1) [w00]):=by
 rw [List.replicate_succ']
 simp [jR]
theorem pO (i:Nat):jR .own (qWo i [w00])++[[.sl .own 2 [[.int .i64 0,.sl .own 1 (wQ z24)]]]]=jR .own (qWo (i+1) [w00]):=qRk i
theorem qP1 (i:Nat):cores .own (qWo i k00)++[[.int .i64 0,.sl .own 1 (wQ z8),.sl .own 1 (wQ z24),.int .i64 0]]=cores .own (qWo (i+1) k00):=by
 rw [List.replicate_succ']
 simp [cores,mX,k00]
theorem mY (i:Nat):cores .own (qWo i k00)++[[.int .i64 0,.sl .own 1 [[AV.int .i64 0],[AV.int .i64 0],[AV.int .i64 0],[AV.int .i64 0],[AV.int .i64 0],[AV.int .i64 0],[AV.int .i64 0],[AV.int .i64 0]],.sl .own 1 [[AV.int .i64 0],[AV.int .i64 0],[AV.int .i64 0],[AV.int .i64 0],[AV.int .i64 0],[AV.int .i64 0],[AV.int .i64 0],[AV.int .i64 0],[AV.int .i64 0],[AV.int .i64 0],[AV.int .i64 0],[AV.int .i64 0],[AV.int .i64 0],[AV.int .i64 0],[AV.int .i64 0],[AV.int .i64 0],[AV.int .i64 0],[AV.int .i64 0],[AV.int .i64 0],[AV.int .i64 0],[AV.int .i64 0],[AV.int .i64 0],[AV.int .i64 0],[AV.int .i64 0]],.int .i64 0]]=cores .own (qWo (i+1) k00):=qP1 i
theorem qA5 {l:List (List yH)} (h1:l.length<2^40) (h2 :∀c∈l,c.length<2^40):kT (dE l):=by
 refine ⟨h1,h2,by simp [dE]; omega,fun k hk=>?_,fun k hk=>?_,⟨by simp [dE,qF1],fun c hc=>?_,fun c hc w hw=>?_⟩,by simp [dE]⟩
 ·rw [qYz hk]
  simp [k00]
 ·rw [qYz hk]
  simp [k00]
 ·rw [qYz hc]
  simp
 ·rw [qYz hc,List.mem_singleton] at hw
  rw [hw]
  simp [w00]
attribute [simp] dE
attribute [go_sem] dE
theorem qCx:qU Tryz.prog num 431 [] [] (.agg (uM .own ⟨qF1⟩)):=by
 refine EN m431 Tryz.func182 ?_
 unfold m431
 simp only [go_sem,seval]
 refine wB (ι:=Nat) (fun i=>.mk [(0,.ptr 10 0 0),(1,.ptr 11 0 0),(2,.int .i64 i)] [(10,1,[[.nil]]),(11,1,[[.sl .own 1 (jR .own (qWo i [w00]))]])] 12) (fun i=>i≤24) (fun i=>24-i) 0 (by simp) ?_ ?_
 ·refine Sub.shape [] id (by omega) ?_ ?_ ?_ ?_<;>simp [qN]
 ·rintro i hi
  simp only [go_sem,seval]
  refine qM (fun hc=>?_) (fun hc=>?_)
  ·simp only [decide_eq_true_eq] at hc
   have hl':i<24:=by omega
   have hlt:(qWo i [w00]).length=i:=by simp
   simp only [go_sem,seval,qW (i:=i) (by omega),hlt,cE]
   repeat refine K ?_
   refine qV (i+1) ?_ hl' (by omega)
   refine Sub.trans (Sub.fold1 14 1 13 rfl (by simp [-gD]<;>omega) rfl (by decide) (by decide) rfl) ?_
   simp only [fS,fS2,qA,qC]
   refine Sub.trans (Sub.foldLast 16 0 14 rfl (by simp [-gD]<;>omega) rfl (by decide) (by decide) rfl) ?_
   simp only [fS,fS2,qA,qC,pO]
   refine Sub.trans (Sub.fold1 11 0 16 rfl (by simp [-gD]<;>omega) rfl (by decide) (by decide) rfl) ?_
   simp only [fS,fS2,qA,qC]
   refine Sub.shape [] id (by omega) ?_ ?_ ?_ ?_<;>simp [qN]
   exact pO i
  ·simp only [decide_eq_false_iff_not] at hc
   obtain rfl:i=24:=by omega
   simp only [go_sem,seval]
   refine ⟨_,Sub.refl _,yR ?_⟩; simp [-qYj]
   simp [qF1]
theorem qDs:qU Tryz.prog num 432 [] [] (.agg (uM .own ⟨qF1⟩)):=by
 refine EN m432 Tryz.func168 ?_
 unfold m432
 simp only [go_sem,seval]
 refine wB (ι:=Nat) (fun i=>.mk [(0,.ptr 10 0 0),(1,.ptr 11 0 0),(3,.int .i64 i)] [(10,1,[[.nil]]),(11,1,[[.sl .own 1 (jR .own (qWo i [w00]))]])] 12) (fun i=>i≤24) (fun i=>24-i) 0 (by simp) ?_ ?_
 ·refine Sub.shape [] id (by omega) ?_ ?_ ?_ ?_<;>simp [qN]
 ·rintro i hi
  simp only [go_sem,seval]
  refine qM (fun hc=>?_) (fun hc=>?_)
  ·simp only [decide_eq_true_eq] at hc
   have hl':i<24:=by omega
   have hlt:(qWo i [w00]).length=i:=by simp
   simp only [go_sem,seval,qW (i:=i) (by omega),hlt,cE]
   repeat refine K ?_
   refine qV (i+1) ?_ hl' (by omega)
   refine Sub.trans (Sub.fold1 14 1 13 rfl (by simp [-gD]<;>omega) rfl (by decide) (by decide) rfl) ?_
   simp only [fS,fS2,qA,qC]
   refine Sub.trans (Sub.foldLast 16 0 14 rfl (by simp [-gD]<;>omega) rfl (by decide) (by decide) rfl) ?_
   simp only [fS,fS2,qA,qC,pO]
   refine Sub.trans (Sub.fold1 11 0 16 rfl (by simp [-gD]<;>omega) rfl (by decide) (by decide) rfl) ?_
   simp only [fS,fS2,qA,qC]
   refine Sub.shape [] id (by omega) ?_ ?_ ?_ ?_<;>simp [qN]
   exact pO i
  ·simp only [decide_eq_false_iff_not] at hc
   obtain rfl:i=24:=by omega
   simp only [go_sem,seval]
   refine ⟨_,Sub.refl _,yR ?_⟩; simp [-qYj]
   simp [qF1]
theorem qBi (l:List (List yH)) (h1:l.length<2^40) (h2 :∀c∈l,c.length<2^40):qU Tryz.prog num 415 [.sl .bw 1 (codes .bw l)] [] (.tup [.agg (qY .own (dS l).1),.bool (dS l).2]):=by
 have hsm:=qA5 h1 h2
 refine EN m415 Tryz.func137 ?_
 unfold m415
 simp only [go_sem,seval]
 refine CA [] (qOn l h1 h2) ?_
 try simp only [go_sem,seval]
 refine CA [] (qCx) ?_
 try simp only [go_sem,seval]
 refine wB (ι:=Nat) (fun i=>.mk [(0,.sl .bw 1 (codes .bw l)),(2,.ptr 10 0 0),(4,.ptr 11 0 0),(5,.int .i64 i)] [(10,4,[[.nil,.nil,.nil,.nil]]),(11,4,[[.sl .own 1 (codes .own l),.sl .own 4 (cores .own (qWo i k00)),.sl .own 1 (jR .own qF1),.sl .own 2 (jW [])]])] 12) (fun i=>i≤l.length) (fun i=>l.length-i) 0 (by simp) ?_ ?_
 ·refine Sub.trans (Sub.fold1 13 0 11 rfl (by simp [-gD]<;>omega) rfl (by decide) (by decide) rfl) ?_
  simp only [fS,fS2,qA,qC]
  refine Sub.trans (Sub.fold1 13 2 12 rfl (by simp [-gD]<;>omega) rfl (by decide) (by decide) rfl) ?_
  simp only [fS,fS2,qA,qC]
  refine Sub.shape [] (fun n=>if n=11 then 13 else n) (by omega) ?_ ?_ ?_ ?_<;>simp [qN]
 ·rintro i hi
  simp only [go_sem,seval]
  refine qM (fun hc=>?_) (fun hc=>?_)
  ·simp only [decide_eq_true_eq] at hc
   have hl':i<l.length:=by omega
   have hlt:(qWo i k00).length=i:=by simp
   simp only [go_sem,seval,qW (i:=i) (by omega),hlt]
   repeat refine K ?_
   refine ⟨?_,?_⟩
   ·repeat refine K ?_
    refine qV (i+1) ?_ hl' (by omega)
    refine Sub.trans (Sub.foldLast 16 1 13 rfl (by simp [-gD]<;>omega) rfl (by decide) (by decide) rfl) ?_
    simp only [fS,fS2,qA,qC]
    refine Sub.trans (Sub.foldLast 16 2 14 rfl (by simp [-gD]<;>omega) rfl (by decide) (by decide) rfl) ?_
    simp only [fS,fS2,qA,qC,mY]
    refine Sub.trans (Sub.fold1 11 1 16 rfl (by simp [-gD]<;>omega) rfl (by decide) (by decide) rfl) ?_
    simp only [fS,fS2,qA,qC]
    refine Sub.shape [] id (by omega) ?_ ?_ ?_ ?_<;>simp [qN]
   ·repeat refine K ?_
    refine qV (i+1) ?_ hl' (by omega)
    refine Sub.trans (Sub.foldLast 16 1 14 rfl (by simp [-gD]<;>omega) rfl (by decide) (by decide) rfl) ?_
    simp only [fS,fS2,qA,qC]
    refine Sub.trans (Sub.foldLast 16 2 13 rfl (by simp [-gD]<;>omega) rfl (by decide) (by decide) rfl) ?_
    simp only [fS,fS2,qA,qC,mY]
    refine Sub.trans (Sub.fold1 11 1 16 rfl (by simp [-gD]<;>omega) rfl (by decide) (by decide) rfl) ?_
    simp only [fS,fS2,qA,qC]
    refine Sub.shape [] id (by omega) ?_ ?_ ?_ ?_<;>simp [qN]
  ·simp only [decide_eq_false_iff_not] at hc
   obtain rfl:i=l.length:=by omega
   simp only [go_sem,seval]
   have hbw:bwR []=([]:List (List AV)):=rfl
   refine CA [] (nY (dE l) hsm) ?_
   try simp only [go_sem,seval]
   cases hk:jG (dE l)
   ·have hr:dS l=(sB,false):=by unfold dS; rw [hk]; rfl
    rw [hr]
    simp only [dE] at hk
    try simp only [go_sem,seval,hk]
    refine ⟨_,Sub.refl _,yO (by simp) ?_⟩; simp [-qYj]
    simp [sB]
   ·have hr:dS l=(dE l,true):=by unfold dS; rw [hk]; rfl
    rw [hr]
    simp only [dE] at hk
    try simp only [go_sem,seval,hk]
    refine ⟨_,Sub.refl _,yO (by simp) ?_⟩; simp [-qYj]
theorem qC7 (l:List (List yH)) (h1:l.length<2^40) (h2 :∀c∈l,c.length<2^40):qU Tryz.prog num 416 [.sl .bw 1 (codes .bw l)] [] (.tup [.agg (qY .own (dS l).1),.bool (dS l).2]):=by
 have hsm:=qA5 h1 h2
 refine EN m416 Tryz.func123 ?_
 unfold m416
 simp only [go_sem,seval]
 refine CA [] (qDs) ?_
 try simp only [go_sem,seval]
 refine wB (ι:=Nat) (fun i=>.mk [(2,.ptr 10 0 0),(4,.ptr 11 0 0),(9,.sl .bw 1 (codes .bw l)),(10,.int .i64 l.length),(11,.int .i64 i)] [(10,4,[[.nil,.nil,.nil,.nil]]),(11,4,[[.sl .own 1 (codes .own (l.take i)),.sl .own 4 (cores .own (qWo i k00)),.sl .own 1 (jR .own qF1),.sl .own 2 (jW [])]])] 12) (fun i=>i≤l.length) (fun i=>l.length-i) 0 (by simp) ?_ ?_
 ·refine Sub.trans (Sub.fold1 12 2 11 rfl (by simp [-gD]<;>omega) rfl (by decide) (by decide) rfl) ?_
  simp only [fS,fS2,qA,qC]
  refine Sub.shape [] (fun n=>if n=11 then 12 else n) (by omega) ?_ ?_ ?_ ?_<;>simp [qN]
 ·rintro i hi
  simp only [go_sem,seval]
  refine qM (fun hc=>?_) (fun hc=>?_)
  ·simp only [decide_eq_true_eq] at hc
   have hl':i<l.length:=by omega
   have hlt:(qWo i k00).length=i:=by simp
   have hlt2:(l.take i).length=i:=by simp; omega
   have hr:=h2 _ (wZ l i [] hl')
   simp only [go_sem,seval,qW (i:=i) (by omega),aO .bw l i hl',hlt,hlt2]
   repeat refine K ?_
   refine ⟨?_,?_⟩
   ·repeat refine K ?_
    refine qV (i+1) ?_ hl' (by omega)
    refine Sub.trans (Sub.foldLast 16 0 14 rfl (by simp [-gD]<;>omega) rfl (by decide) (by decide) rfl) ?_
    simp only [fS,fS2,qA,qC,qB1 l i hl']
    refine Sub.trans (Sub.fold1 11 0 16 rfl (by simp [-gD]<;>omega) rfl (by decide) (by decide) rfl) ?_
    simp only [fS,fS2,qA,qC,List.length_take,Nat.min_eq_left (show i+1≤l.length from hl')]
    refine Sub.trans (Sub.foldLast 21 1 18 rfl (by simp [-gD]<;>omega) rfl (by decide) (by decide) rfl) ?_
    simp only [fS,fS2,qA,qC]
    refine Sub.trans (Sub.foldLast 21 2 19 rfl (by simp [-gD]<;>omega) rfl (by decide) (by decide) rfl) ?_
    simp only [fS,fS2,qA,qC,mY]
    refine Sub.trans (Sub.fold1 11 1 21 rfl (by simp [-gD]<;>omega) rfl (by decide) (by decide) rfl) ?_
    simp only [fS,fS2,qA,qC]
    refine Sub.shape [] id (by omega) ?_ ?_ ?_ ?_<;>simp [qN]
   ·repeat refine K ?_
    refine qV (i+1) ?_ hl' (by omega)
    refine Sub.trans (Sub.foldLast 16 0 14 rfl (by simp [-gD]<;>omega) rfl (by decide) (by decide) rfl) ?_
    simp only [fS,fS2,qA,qC,qB1 l i hl']
    refine Sub.trans (Sub.fold1 11 0 16 rfl (by simp [-gD]<;>omega) rfl (by decide) (by decide) rfl) ?_
    simp only [fS,fS2,qA,qC,List.length_take,Nat.min_eq_left (show i+1≤l.length from hl')]
    refine Sub.trans (Sub.foldLast 21 1 19 rfl (by simp [-gD]<;>omega) rfl (by decide) (by decide) rfl) ?_
    simp only [fS,fS2,qA,qC]
    refine Sub.trans (Sub.foldLast 21 2 18 rfl (by simp [-gD]<;>omega) rfl (by decide) (by decide) rfl) ?_
    simp only [fS,fS2,qA,qC,mY]
    refine Sub.trans (Sub.fold1 11 1 21 rfl (by simp [-gD]<;>omega) rfl (by decide) (by decide) rfl) ?_
    simp only [fS,fS2,qA,qC]
    refine Sub.shape [] id (by omega) ?_ ?_ ?_ ?_<;>simp [qN]
  ·simp only [decide_eq_false_iff_not] at hc
   obtain rfl:i=l.length:=by omega
   have hie:l.take l.length=l:=List.take_length
   simp only [go_sem,seval,hie]
   have hbw:bwR []=([]:List (List AV)):=rfl
   refine CA [] (oL (dE l) hsm) ?_
   try simp only [go_sem,seval]
   cases hk:jG (dE l)
   ·have hr:dS l=(sB,false):=by unfold dS; rw [hk]; rfl
    rw [hr]
    simp only [dE] at hk
    try simp only [go_sem,seval,hk]
    refine ⟨_,Sub.refl _,yO (by simp) ?_⟩; simp [-qYj]
    simp [sB]
   ·have hr:dS l=(dE l,true):=by unfold dS; rw [hk]; rfl
    rw [hr]
    simp only [dE] at hk
    try simp only [go_sem,seval,hk]
    refine ⟨_,Sub.refl _,yO (by simp) ?_⟩; simp [-qYj]
end Go.Sep
