/- Contracts of functions. -/
import Derived.Test.YtfecojefbnnknaaGreatRxx1
open List renaming drop_one → wD9, getD_eq_getElem?_getD → wBr, length_set → wD6
namespace Go.Sep
set_option maxHeartbeats 16000000
open Go.Proofs
set_option linter.unusedSimpArgs false
set_option linter.unusedVariables false
set_option maxRecDepth 100000
open Nat renaming reduceAdd → qA, reduceMul → qB, reduceEqDiff → qC, reduceBEq → qD
open Int renaming reduceToNat → qE, reduceEq → qF, reduceLT → qG, reduceLE → qH
open List renaming getD_eq_getElem?_getD → gD
def m60:MFn:=⟨22,[.t 6],kr [xI 6 0] (.seq (kr [xv 7 0] (.blk 0 (kr [bI 9 .eql 7 2,xv 8 9] (.cond 8 (kR [xv 10 1,xv 11 2,bT 12 .add 10 11,xv 6 12]) (kr [bI 14 .eql 7 3,xv 13 14] (kF 13 [xv 15 1,xv 16 2,bT 17 .sub 15 16,xv 6 17])))))) (kR [xv 18 1,xv 19 2,bT 20 .lss 18 19,xc1 21 78 (.t 20),xv 6 21]))⟩
def m61:MFn:=⟨116,[.t 6],kr [xb 5 2,xF 6] (.seq (kr [xa 14 0 5,xl 15 14] (.blk 0 (.seq (kr [bI 17 .eql 15 5,xv 16 17] (.cond 16 (.skip) (xr [bI 18 .eql 15 7,xv 16 18]))) (.cond 16 (.seq (.dreg (.take 0 (xv 20 1) (.take 1 (xk 21 20) (.take 2 (xm 22 3 21) (.take 3 (xv 23 0) (.take 4 (xk 24 23) (.take 5 (xa 25 1 24) (.take 6 (xl 26 25) (.take 7 (xa 27 2 5) (.take 8 (xl 28 27) (.take 9 (xD 29 1 26 28) (.take 10 (xl 30 29) (.both 11 [2,10,1,9,0,6,8,5,7,4,3] (xc2 31 79 (.t 22) (.t 30)) (.take 12 (xv 19 31) (.take 13 (xX 32 19 0) (.take 14 (xX 33 19 1) (.only 15 [] (xo 7 (.alloc [.int .i64 0,.nil,.bool false])) (.only 16 [0,1,2,3,4,5,6,7,8,9,10,12,13] (xS 3 7 32) (.only 17 [0,1,2,3,4,5,6,7,8,9,10,12,13,14] (xv 8 33) (.done))))))) 15 [] (xo 7 (.alloc [.int .i64 0,.nil,.bool false])) (.only 11 [2,10,1,9,0,6,8,5,7,4,3] (xc2 31 79 (.t 22) (.t 30)) (.only 12 [11,2,10,1,9,0,6,8,5,7,4,3] (xv 19 31) (.take 13 (xX 32 19 0) (.take 14 (xX 33 19 1) (.only 16 [0,1,2,3,4,5,6,7,8,9,10,13] (xS 3 7 32) (.only 17 [0,1,2,3,4,5,6,7,8,9,10,13,14] (xv 8 33) (.done)))))))))))))))))))) (kr [xv 34 1,xm 35 3 7,xk 36 34,xS 3 36 35] (.seq (kr [xa 37 0 5,xl 38 37,bI 39 .eql 38 7,xv 40 39,yv 41 8 40,yI 42 .neq 41 2 40,xP 43 40 42] (.cond 43 (.dreg (.take 0 (xv 44 0) (.take 1 (xk 45 44) (.take 2 (xa 46 1 45) (.take 3 (xl 47 46) (.take 4 (xa 48 1 5) (.take 5 (xl 49 48) (.only 6 [] (xv 50 8) (.only 7 [] (bI 51 .eql 50 0) (.only 8 [] (xc1 52 78 (.t 51)) (.only 9 [0,1,2,3,4,5] (xD 53 1 47 49) (.only 10 [0,1,2,3,4,5] (xS 1 53 52) (.done))))))))))))) (.skip))) (kR [xv 54 8,bI 55 .neq 54 2,xv 6 55])))) (.seq (kr [bI 57 .eql 15 6,xv 56 57] (.cond 56 (.skip) (xr [bI 58 .eql 15 8,xv 56 58]))) (.cond 56 (kr [xv 60 1,xk 61 60,xm 62 3 61,xc1 63 80 (.t 62),xv 59 63,xX 64 59 0,xX 65 59 1,xX 66 59 2,xo 9 (.alloc [.int .i64 0,.nil,.bool false]),xS 3 9 64,xv 10 65,xv 11 66] (kr [xv 67 1,xm 68 3 9,xk 69 67,xS 3 69 68] (.seq (.dreg (.take 0 (xv 70 0) (.take 1 (xk 71 70) (.take 2 (xa 72 1 71) (.take 3 (xl 73 72) (.take 4 (xa 74 1 5) (.take 5 (xl 75 74) (.take 6 (xv 76 0) (.take 7 (xk 77 76) (.take 8 (xa 78 1 77) (.take 9 (xl 79 78) (.take 10 (xa 80 3 5) (.take 11 (xl 81 80) (.take 12 (xv 82 10) (.only 13 [] (xv 83 11) (.only 14 [] (bI 84 .eql 83 0) (.only 15 [] (xc1 85 78 (.t 84)) (.only 16 [0,1,2,3,4,5,9,12,8,7,6] (xD 86 1 73 75) (.only 17 [0,1,2,3,4,5,9,12,8,7,6] (xS 1 86 82) (.only 18 [0,1,2,3,4,5,6,7,8,9,10,11,12] (xD 87 1 79 81) (.only 19 [0,1,2,3,4,5,6,7,8,9,10,11,12] (xS 1 87 85) (.done)))))))))))))))))))))) (.seq (kr [xv 88 11,bI 89 .eql 88 3,xv 90 89,ya 91 0 5 90,yl 92 1 91 90,yI 93 .eql 92 8 90,xP 94 90 93] (.cond 94 (.dreg (.take 0 (xv 95 0) (.take 1 (xk 96 95) (.take 2 (xa 97 1 96) (.take 3 (xl 98 97) (.only 4 [] (xa 99 3 5) (.only 5 [] (xl 100 99) (.only 6 [0,1,2,3] (xD 101 1 98 100) (.only 7 [0,1,2,3] ⟨none,.store 1 (.t 101) (xi 2),none⟩ (.done)))))))))) (.skip))) (kR [xv 102 11,bI 103 .neq 102 2,xv 6 103]))))) (.skip))))))) (kr [xv 105 1,xk 106 105,xm 107 3 106,xc1 108 81 (.t 107),xv 104 108,xX 109 104 0,xX 110 104 1,xo 12 (.alloc [.int .i64 0,.nil,.bool false]),xS 3 12 109,xv 13 110] (kr [xv 111 1,xm 112 3 12,xk 113 111,xS 3 113 112] (kR [xv 114 13,bI 115 .neq 114 2,xv 6 115]))))⟩
def xZ (op a b:Int):Int:=if op=2 then IntKind.i64.wrap (a+b) else if op=3 then IntKind.i64.wrap (a-b) else vV (decide (a<b))
theorem tC (op a b:Int):qY Tryz.prog num 60 [.int .i64 op,.int .i64 a,.int .i64 b] [] (.int .i64 (xZ op a b)):=by
 refine EN m60 Tryz.func109 ?_
 unfold m60
 by_cases h2:op=2
 ·simp only [go_sem,seval,h2]
  refine fz ?_; simp [yQ,wJ,wK,wR,-wD9]
  simp [xZ,h2]
 by_cases h3:op=3
 ·simp only [go_sem,seval,h3]
  refine fz ?_; simp [yQ,wJ,wK,wR,-wD9]
  simp [xZ,h3]
 simp only [go_sem,seval,h2,h3]
 refine CA [] (lA (decide (a<b))) ?_
 try simp only [go_sem,seval]
 refine fz ?_; simp [yQ,wJ,wK,wR,-wD9]
 simp [xZ,h2,h3]
def reg (t:yP) (r:Int):Int:=t.regs.getD r.toNat 0
def wV (t:yP) (r v:Int):yP:=⟨t.at_,t.regs.set r.toNat v,t.st⟩
def wC (t:yP) (c:jZ) (x:Ins):yP×jZ×Bool :=
 if x.op=5∨x.op=7 then
  (if x.op=7∧¬(yD c (reg t x.a)).2=2 then wV t x.r (vV (decide ((yD c (reg t x.a)).2=0))) else t,(yD c (reg t x.a)).1,!decide ((yD c (reg t x.a)).2=2))
 else if x.op=6∨x.op=8 then
  (if (wP c).2.2=3∧x.op=8 then wV (wV (wV t x.r (wP c).2.1) x.b (vV (decide ((wP c).2.2=0)))) x.b 2 else wV (wV t x.r (wP c).2.1) x.b (vV (decide ((wP c).2.2=0))),(wP c).1,!decide ((wP c).2.2=2))
 else (t,(vN c).1,!decide ((vN c).2=2))
theorem jR {α:Type} (l:List α) (i:Nat) (x d:α) (h:i<l.length):(l.set i x).getD i d=x:=by simp [List.getD_eq_getElem?_getD,h]
theorem jP {α:Type} (l:List α) (i:Nat) (d:α) (h:i<l.length):l.set i (l.getD i d)=l:=by
 rw [wBr,List.getElem?_eq_getElem h,Option.getD_some,List.set_getElem_self]
theorem qOi (ths:List yP) (i:Nat) (chs:List jZ) (j:Nat) (x:Ins) (hi:i<ths.length) (hj:j<chs.length) (hr:(ths.getD i default).regs.length=4) (hc:(chs.getD j default).list.length<2^40)
  (r0:0≤x.r) (r1:x.r.toNat<4) (a0:0≤x.a) (a1:x.a.toNat<4) (b0:0≤x.b) (b1:x.b.toNat<4) :
  qY Tryz.prog num 61 [.ptr 0 i 0,.ptr 1 j 0,.agg (gE x)] [(0,some (3,yH .own ths),some (3,yH .own (ths.set i (wC (ths.getD i default) (chs.getD j default) x).1))),
   (1,some (3,wH .own chs),some (3,wH .own (chs.set j (wC (ths.getD i default) (chs.getD j default) x).2.1)))] (.bool (wC (ths.getD i default) (chs.getD j default) x).2.2):=by
 refine EH m61 Tryz.func110 ?_
 unfold m61
 have gt :∀r,((yH .own ths).set i r).getD i []=r:=fun r=>jR _ _ _ _ (by rw [dU]; exact hi)
 have gc :∀r,((wH .own chs).set j r).getD j []=r:=fun r=>jR _ _ _ _ (by rw [xB]; exact hj)
 have ra:x.a.toNat<(ths.getD i default).regs.length:=by omega
 have rr:x.r.toNat<(ths.getD i default).regs.length:=by omega
 have rb:x.b.toNat<(ths.getD i default).regs.length:=by omega
 have rbs :∀v,x.b.toNat<((ths.getD i default).regs.set x.r.toNat v).length:=fun v=>by rw [wD6]; exact rb
 have rbs2 :∀v u,x.b.toNat<(((ths.getD i default).regs.set x.r.toNat v).set x.b.toNat u).length:=fun v u=>by rw [wD6,wD6]; exact rb
 have rr:x.r.toNat<(ths.getD i default).regs.length:=by omega
 have rb:x.b.toNat<(ths.getD i default).regs.length:=by omega
 have rbs :∀v,x.b.toNat<((ths.getD i default).regs.set x.r.toNat v).length:=fun v=>by rw [wD6]; exact rb
 have rbs2 :∀v u,x.b.toNat<(((ths.getD i default).regs.set x.r.toNat v).set x.b.toNat u).length:=fun v u=>by rw [wD6,wD6]; exact rb
 by_cases h5:x.op=5
 ·simp only [go_sem,seval,h5,qV .own ths i hi,bM .own chs j hj,gt,gc,qI (ths.getD i default).regs x.a.toNat ra]
  repeat refine K ?_
  refine ⟨?_,?_⟩
  ·skip
   refine DA [] (xY (chs.getD j default) ((ths.getD i default).regs.getD x.a.toNat 0) (by omega)) ?_
   try simp only [go_sem,seval]
   simp only [go_sem,seval,h5,gt,gc]
   repeat refine K ?_
   apply wI
   ·refine Sub.trans (Sub.foldAt 0 1 12 rfl (by simp [-gD]<;>omega) rfl (by decide) (by decide) rfl (by simp<;>omega)) ?_
    simp only [fS,qA,qC]
    refine Sub.trans (Sub.foldAt 1 1 13 rfl (by simp [-gD]<;>omega) rfl (by decide) (by decide) rfl (by simp<;>omega)) ?_
    simp only [fS,qA,qC]
    exact Sub.refl _
   ·simp [-wD9,-gD,qO,gX,wC,reg,wV,h5]<;>(first | rfl | exact ⟨rfl,rfl⟩ | exact ⟨rfl,rfl,rfl⟩ | skip)
  ·repeat refine K ?_
   refine DA [] (xY (chs.getD j default) ((ths.getD i default).regs.getD x.a.toNat 0) (by omega)) ?_
   try simp only [go_sem,seval]
   simp only [go_sem,seval,h5,gt,gc]
   repeat refine K ?_
   apply wI
   ·refine Sub.trans (Sub.foldAt 0 1 12 rfl (by simp [-gD]<;>omega) rfl (by decide) (by decide) rfl (by simp<;>omega)) ?_
    simp only [fS,qA,qC]
    refine Sub.trans (Sub.foldAt 1 1 14 rfl (by simp [-gD]<;>omega) rfl (by decide) (by decide) rfl (by simp<;>omega)) ?_
    simp only [fS,qA,qC]
    exact Sub.refl _
   ·simp [-wD9,-gD,qO,gX,wC,reg,wV,h5]<;>(first | rfl | exact ⟨rfl,rfl⟩ | exact ⟨rfl,rfl,rfl⟩ | skip)
 by_cases h7:x.op=7
 ·simp only [go_sem,seval,h7,qV .own ths i hi,bM .own chs j hj,gt,gc,qI (ths.getD i default).regs x.a.toNat ra]
  repeat refine K ?_
  refine ⟨?_,?_⟩
  ·skip
   refine DA [] (xY (chs.getD j default) ((ths.getD i default).regs.getD x.a.toNat 0) (by omega)) ?_
   try simp only [go_sem,seval]
   simp only [go_sem,seval,h7,gt,gc]
   repeat refine K ?_
   by_cases hk:(yD (chs.getD j default) ((ths.getD i default).regs.getD x.a.toNat 0)).2=2
   ·simp only [go_sem,seval,hk,gt,gc,h7]
    apply wI
    ·refine Sub.trans (Sub.foldAt 0 1 12 rfl (by simp [-gD]<;>omega) rfl (by decide) (by decide) rfl (by simp<;>omega)) ?_
     simp only [fS,qA,qC]
     refine Sub.trans (Sub.foldAt 1 1 13 rfl (by simp [-gD]<;>omega) rfl (by decide) (by decide) rfl (by simp<;>omega)) ?_
     simp only [fS,qA,qC]
     exact Sub.refl _
    ·simp [-wD9,-gD,qO,gX,wC,reg,wV,h7,hk]<;>(first | rfl | exact ⟨rfl,rfl⟩ | exact ⟨rfl,rfl,rfl⟩ | skip)
   ·simp only [go_sem,seval,hk,gt,gc,h7]
    repeat refine K ?_
    refine DA [] (lA (decide ((yD (chs.getD j default) ((ths.getD i default).regs.getD x.a.toNat 0)).2=0))) ?_
    try simp only [go_sem,seval]
    repeat refine K ?_
    simp only [go_sem,seval,gt,gc,h7,qI (ths.getD i default).regs x.r.toNat rr,hk]
    repeat refine K ?_
    apply wI
    ·refine Sub.trans (Sub.foldAt 0 1 12 rfl (by simp [-gD]<;>omega) rfl (by decide) (by decide) rfl (by simp<;>omega)) ?_
     simp only [fS,qA,qC]
     refine Sub.trans (Sub.foldAt 1 1 13 rfl (by simp [-gD]<;>omega) rfl (by decide) (by decide) rfl (by simp<;>omega)) ?_
     simp only [fS,qA,qC]
     exact Sub.refl _
    ·simp [-wD9,-gD,qO,gX,wC,reg,wV,h7,hk]<;>(first | rfl | exact ⟨rfl,rfl⟩ | exact ⟨rfl,rfl,rfl⟩ | skip)
  ·repeat refine K ?_
   refine DA [] (xY (chs.getD j default) ((ths.getD i default).regs.getD x.a.toNat 0) (by omega)) ?_
   try simp only [go_sem,seval]
   simp only [go_sem,seval,h7,gt,gc]
   repeat refine K ?_
   by_cases hk:(yD (chs.getD j default) ((ths.getD i default).regs.getD x.a.toNat 0)).2=2
   ·simp only [go_sem,seval,hk,gt,gc,h7]
    apply wI
    ·refine Sub.trans (Sub.foldAt 0 1 12 rfl (by simp [-gD]<;>omega) rfl (by decide) (by decide) rfl (by simp<;>omega)) ?_
     simp only [fS,qA,qC]
     refine Sub.trans (Sub.foldAt 1 1 14 rfl (by simp [-gD]<;>omega) rfl (by decide) (by decide) rfl (by simp<;>omega)) ?_
     simp only [fS,qA,qC]
     exact Sub.refl _
    ·simp [-wD9,-gD,qO,gX,wC,reg,wV,h7,hk]<;>(first | rfl | exact ⟨rfl,rfl⟩ | exact ⟨rfl,rfl,rfl⟩ | skip)
   ·simp only [go_sem,seval,hk,gt,gc,h7]
    repeat refine K ?_
    refine DA [] (lA (decide ((yD (chs.getD j default) ((ths.getD i default).regs.getD x.a.toNat 0)).2=0))) ?_
    try simp only [go_sem,seval]
    repeat refine K ?_
    simp only [go_sem,seval,gt,gc,h7,qI (ths.getD i default).regs x.r.toNat rr,hk]
    repeat refine K ?_
    apply wI
    ·refine Sub.trans (Sub.foldAt 0 1 12 rfl (by simp [-gD]<;>omega) rfl (by decide) (by decide) rfl (by simp<;>omega)) ?_
     simp only [fS,qA,qC]
     refine Sub.trans (Sub.foldAt 1 1 14 rfl (by simp [-gD]<;>omega) rfl (by decide) (by decide) rfl (by simp<;>omega)) ?_
     simp only [fS,qA,qC]
     exact Sub.refl _
    ·simp [-wD9,-gD,qO,gX,wC,reg,wV,h7,hk]<;>(first | rfl | exact ⟨rfl,rfl⟩ | exact ⟨rfl,rfl,rfl⟩ | skip)
 by_cases h6:x.op=6
 ·simp only [go_sem,seval,h6,qV .own ths i hi,bM .own chs j hj,gt,gc]
  repeat refine K ?_
  refine CA [] (nF (chs.getD j default) (by omega)) ?_
  try simp only [go_sem,seval]
  simp only [go_sem,seval,h6,qV .own ths i hi,bM .own chs j hj,gt,gc]
  repeat refine K ?_
  refine DA [] (lA (decide ((wP (chs.getD j default)).2.2=0))) ?_
  try simp only [go_sem,seval]
  repeat refine K ?_
  simp only [go_sem,seval,gt,gc,h6,qI (ths.getD i default).regs x.r.toNat rr,qI _ x.b.toNat (rbs _)]
  repeat refine K ?_
  by_cases hk:(wP (chs.getD j default)).2.2=3
  ·simp only [go_sem,seval,hk,gt,gc,h6]
   apply wI
   ·refine Sub.trans (Sub.foldAt 0 1 14 rfl (by simp [-gD]<;>omega) rfl (by decide) (by decide) rfl (by simp<;>omega)) ?_
    simp only [fS,qA,qC]
    refine Sub.trans (Sub.foldAt 1 1 12 rfl (by simp [-gD]<;>omega) rfl (by decide) (by decide) rfl (by simp<;>omega)) ?_
    simp only [fS,qA,qC]
    exact Sub.refl _
   ·simp [-wD9,-gD,qO,gX,wC,reg,wV,h6,hk]<;>(first | rfl | exact ⟨rfl,rfl⟩ | exact ⟨rfl,rfl,rfl⟩ | skip)
  ·simp only [go_sem,seval,hk,gt,gc,h6]
   apply wI
   ·refine Sub.trans (Sub.foldAt 0 1 14 rfl (by simp [-gD]<;>omega) rfl (by decide) (by decide) rfl (by simp<;>omega)) ?_
    simp only [fS,qA,qC]
    refine Sub.trans (Sub.foldAt 1 1 12 rfl (by simp [-gD]<;>omega) rfl (by decide) (by decide) rfl (by simp<;>omega)) ?_
    simp only [fS,qA,qC]
    exact Sub.refl _
   ·simp [-wD9,-gD,qO,gX,wC,reg,wV,h6,hk]<;>(first | rfl | exact ⟨rfl,rfl⟩ | exact ⟨rfl,rfl,rfl⟩ | skip)
 by_cases h8:x.op=8
 ·simp only [go_sem,seval,h8,qV .own ths i hi,bM .own chs j hj,gt,gc]
  repeat refine K ?_
  refine CA [] (nF (chs.getD j default) (by omega)) ?_
  try simp only [go_sem,seval]
  simp only [go_sem,seval,h8,qV .own ths i hi,bM .own chs j hj,gt,gc]
  repeat refine K ?_
  refine DA [] (lA (decide ((wP (chs.getD j default)).2.2=0))) ?_
  try simp only [go_sem,seval]
  repeat refine K ?_
  simp only [go_sem,seval,gt,gc,h8,qI (ths.getD i default).regs x.r.toNat rr,qI _ x.b.toNat (rbs _)]
  repeat refine K ?_
  by_cases hk:(wP (chs.getD j default)).2.2=3
  ·simp only [go_sem,seval,hk,gt,gc,h8,qI _ x.b.toNat (rbs2 _ _)]
   repeat refine K ?_
   apply wI
   ·refine Sub.trans (Sub.foldAt 0 1 14 rfl (by simp [-gD]<;>omega) rfl (by decide) (by decide) rfl (by simp<;>omega)) ?_
    simp only [fS,qA,qC]
    refine Sub.trans (Sub.foldAt 1 1 12 rfl (by simp [-gD]<;>omega) rfl (by decide) (by decide) rfl (by simp<;>omega)) ?_
    simp only [fS,qA,qC]
    exact Sub.refl _
   ·simp [-wD9,-gD,qO,gX,wC,reg,wV,h8,hk]<;>(first | rfl | exact ⟨rfl,rfl⟩ | exact ⟨rfl,rfl,rfl⟩ | skip)
  ·simp only [go_sem,seval,hk,gt,gc,h8]
   apply wI
   ·refine Sub.trans (Sub.foldAt 0 1 14 rfl (by simp [-gD]<;>omega) rfl (by decide) (by decide) rfl (by simp<;>omega)) ?_
    simp only [fS,qA,qC]
    refine Sub.trans (Sub.foldAt 1 1 12 rfl (by simp [-gD]<;>omega) rfl (by decide) (by decide) rfl (by simp<;>omega)) ?_
    simp only [fS,qA,qC]
    exact Sub.refl _
   ·simp [-wD9,-gD,qO,gX,wC,reg,wV,h8,hk]<;>(first | rfl | exact ⟨rfl,rfl⟩ | exact ⟨rfl,rfl,rfl⟩ | skip)
 simp only [go_sem,seval,h5,h6,h7,h8,bM .own chs j hj,gc]
 repeat refine K ?_
 refine CA [] (qC2 (chs.getD j default) (by omega)) ?_
 try simp only [go_sem,seval]
 simp only [go_sem,seval,h5,h6,h7,h8,gc]
 repeat refine K ?_
 apply wI
 ·refine Sub.trans (Sub.foldAt 1 1 12 rfl (by simp [-gD]<;>omega) rfl (by decide) (by decide) rfl (by simp<;>omega)) ?_
  simp only [fS,qA,qC]
  exact Sub.refl _
 ·simp [-wD9,-gD,qO,gX,wC,h5,h6,h7,h8]<;>(first | rfl | exact ⟨rfl,rfl⟩ | exact ⟨rfl,rfl,rfl⟩ | skip)
  rw [jP ths i default hi]
end Go.Sep
