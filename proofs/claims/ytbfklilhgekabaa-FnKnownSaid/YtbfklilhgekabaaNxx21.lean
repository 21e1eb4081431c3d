/- Contracts of functions. -/
import Derived.Test.YtbfklilhgekabaaNxx14
import Derived.Test.YtbfklilhgekabaaNxx15
open List renaming drop_one → qYt
namespace Go.Sep
set_option maxHeartbeats 16000000
open Go.Proofs
set_option linter.unusedSimpArgs false
set_option linter.unusedVariables false
set_option maxRecDepth 100000
open Nat renaming reduceAdd → qA, reduceMul → qB, reduceEqDiff → qC, reduceBEq → qD
open Int renaming reduceToNat → qE, reduceEq → qF, reduceLT → qG, reduceLE → qH
open List renaming getD_eq_getElem?_getD → gD
def m168:MFn:=⟨31,[.cell 2 2 true,.t 3],kr [xo 2 (.alloc [.nil,.nil]),xo 3 (.mv (.c (.nil)))] (kr [xv 8 0,xo 9 (.call 37 [true] [.t 8]),xv 4 9] (kr [xv 10 4,xo 11 (.call 55 [true] [.t 10]),xo 5 (.alloc [.nil,.nil]),xS 2 5 11] (kr [xo 12 (.mkSl [xz] 0 []),xv 6 12] (.seq (kr [xI 7 0] (.blk 0 (.loop (.seq (kr [xv 13 7,xv 14 4,xv 15 0,xc3 16 213 (.t 15) (xi 60) (xi 120),xo 17 (.call 39 [true,false] [.t 14,.t 16]),bT 18 .lss 13 17] (kX 18 0)) (.seq (.blk 1 (xr [xv 21 6,xv 22 4,xa 23 1 5,xl 24 23,xe 25 24,xo 26 (.call 39 [true,false] [.t 22,.t 25]),xo 27 (.mkSl [xz] 1 [(0,.t 26)]),xA 28 1 8 21 27,xv 6 28])) (xr [xv 19 7,bI 20 .add 19 1,xv 7 20])))))) (kR [xm 29 2 5,xv 30 6,xS 2 2 29,xv 3 30])))))⟩
def m476:MFn:=⟨6,[.t 2],kr [xo 2 (.mv (.c (.nil)))] (kR [xv 3 0,xo 4 (.call 37 [true] [.t 3]),xo 5 (.call 484 [true] [.t 4]),xv 2 5])⟩
def m484:MFn:=⟨29,[.t 2],kr [xo 2 (.mv (.c (.nil)))] (kr [xv 4 0,xo 5 (.call 77 [true,false] [.t 4,xi 3]),xv 3 5] (.seq (kr [xv 6 0,xo 7 (.call 39 [true,false] [.t 6,xi 12])] (.blk 0 (kr [bI 9 .eql 7 0,xv 8 9] (.cond 8 (.dreg (.take 0 (xv 10 3) (.take 1 (xv 11 0) (.take 2 (xv 12 3) (.take 3 (xe 13 12) (.take 5 (xv 15 0) (.take 6 (xv 16 3) (.take 7 (xo 17 (.iad 5 (.t 16) (xi 0))) (.take 8 (xm 18 5 17) (.only 4 [1,3,2] (xo 14 (.call 39 [true,false] [.t 11,.t 13])) (.only 9 [4,5,8,1,3,7,2,6] (xo 19 (.call 57 [true,false] [.t 15,.t 18])) (.only 10 [0,1,2,3,5,6,7,8] (xD 20 5 10 14) (.only 11 [0,1,2,3,5,6,7,8] (xS 5 20 19) (.done)))))))))))))) (kr [bI 22 .eql 7 1,xv 21 22] (kF 21 [xv 23 3,xv 24 3,xe 25 24,bI 26 .sub 25 1,xo 27 (.cut 5 (.t 23) none (some (.t 26))),xv 2 27])))))) (kR [xv 28 3,xv 2 28])))⟩
def qVq (code:List Int) (c:Cur) (n:Nat):List Int×Cur:=dF code 0 (sN code.length 60 120) (fun d=>qM code d n) 120 0 c []
def kW (code:List Int):yM×List Int:=((zC code (mZ code)).1,(qVq code (zC code (mZ code)).2 (zC code (mZ code)).1.bods.length).1)
theorem qQ1 (code:List Int):uZ (kW code).1=true∧(kW code).2.length≤120∧∀x∈(kW code).2,0≤x∧x<(kW code).1.bods.length:=by
 refine ⟨qFp code (mZ code),?_,?_⟩
 ·have h:=(eG (code:=code) (base:=0) (m:=sN code.length 60 120) (step:=fun d=>qM code d (zC code (mZ code)).1.bods.length) 120 0 (zC code (mZ code)).2 []).2
  simpa [kW,qVq] using h
 ·have hb:=(qGh code (mZ code)).2.2.1
  exact lK (Q:=fun x=>0≤x∧x<((zC code (mZ code)).1.bods.length:Int)) (fun d=>jE code d _ (by omega)) 120 0 _ [] (by simp)
theorem qEd (code:List Int) (hb:code.length<2^62):wJ Try.prog num 168 [.sl .fz 1 (bys code)] [] (.tup [.agg (zH .own (kW code).1),.sl .own 1 (wT (kW code).2)]):=by
 have hm:=qSj code.length (show (60:Int)≤120 by omega)
 refine EN m168 Try.func12 ?_
 unfold m168 kW
 simp only [go_sem,seval]
 repeat refine K ?_
 refine fX (qJ8 (n1:=12) [(10,11)] (qKq code hb) ?_ ?_ ?_ ?_ ?_ ?_ ?_) ?_
 any_goals (first | omega | (simp [wN,wP]; done) | (simp [wN,wP, *]; done))
 try simp only [go_sem,seval]
 repeat refine K ?_
 refine CA [(0,11)] (qDz code (mZ code) hb) ?_
 try simp only [go_sem,seval]
 repeat refine K ?_
 generalize zC code (mZ code)=r
 obtain ⟨p,d⟩:=r
 simp only
 unfold qVq
 try simp only [go_sem,seval]
 repeat refine K ?_
 have clong:=qQl code 60 120 hb (by omega)
 generalize sN code.length 60 120=w at *
 refine wM (ι:=Nat×Cur×List Int) (fun s=>.mk [(0,.sl .fz 1 (bys code)),(2,.ptr 10 0 0),(4,.ptr 11 0 0),(5,.ptr 14 0 0),(6,.ns 15 0 s.1),(7,.int .i64 s.1)] [(10,2,[[.nil,.nil]]),(11,3,[eU code s.2.1]),(14,2,[zH .own p]),(15,1,wT s.2.2)] 16) (fun s=>s.1≤120∧s.2.2.length=s.1∧dF code 0 w (fun d=>qM code d p.bods.length) (120-s.1) s.1 s.2.1 s.2.2=dF code 0 w (fun d=>qM code d p.bods.length) 120 0 d []) (fun s=>120-s.1) (0,d,[]) ⟨by simp,rfl,rfl⟩ ?_ ?_
 ·refine Sub.trans (Sub.fold1 14 0 12 rfl (by simp [-gD]<;>omega) rfl (by decide) (by decide) rfl) ?_
  simp only [fS,fS3,qA,qC]
  refine Sub.trans (Sub.fold1 14 1 13 rfl (by simp [-gD]<;>omega) rfl (by decide) (by decide) rfl) ?_
  simp only [fS,fS3,qA,qC]
  refine Sub.shape [] id (by omega) ?_ ?_ ?_ ?_<;>simp [qR]
  exact .inl rfl
 ·rintro ⟨j,f,acc⟩ ⟨hj,hl,hd⟩
  simp only at hj hl hd⊢
  simp only [go_sem,seval]
  refine CA [] (clong) ?_
  try simp only [go_sem,seval]
  repeat refine K ?_
  try simp only [go_sem,seval]
  repeat refine K ?_
  refine CA [(0,11)] (yG code f w hb) ?_
  try simp only [go_sem,seval]
  repeat refine K ?_
  have hr:=jE code f w (by omega)
  try simp only [go_sem,seval]
  repeat refine K ?_
  refine qX (fun hc=>?_) (fun hc=>?_)
  ·simp only [decide_eq_true_eq] at hc
   have hg:=qH9 (code:=code) (base:=0) (m:=w) (step:=fun d=>qM code d p.bods.length) (N:=120) (i:=j) (c:=f) (acc:=acc) (by omega) (by omega)
   rw [hg] at hd
   try simp only at hd
   simp only [go_sem,seval,wA (i:=j) (by omega),hl]
   repeat refine K ?_
   refine CA [(0,11)] (yG code (qM code f w).2 p.bods.length hb) ?_
   try simp only [go_sem,seval]
   repeat refine K ?_
   try simp only [go_sem,seval,wA (i:=j) (by omega),hl]
   repeat refine K ?_
   refine qT (j+1,(qM code (qM code f w).2 p.bods.length).2,acc++[(qM code (qM code f w).2 p.bods.length).1]) ?_ ⟨by simp only; omega,by simp only [List.length_append,hl]; rfl,hd⟩ (by simp only; omega)
   refine Sub.trans (Sub.fold1 14 1 16 rfl (by simp [-gD]<;>omega) rfl (by decide) (by decide) rfl) ?_
   simp only [fS,fS3,qA,qC]
   refine Sub.shape [] (fun n=>if n=15 then 18 else n) (by omega) ?_ ?_ ?_ ?_<;>simp [qR]
   exact .inl (qGy _ _)
  ·simp only [decide_eq_false_iff_not] at hc
   rw [qBk (by omega)] at hd
   simp only [go_sem,seval]
   repeat refine K ?_
   rw [←hd]
   apply qIv (by simp)
   ·exact Sub.refl _
   ·simp [-qYt,-gD,hl]<;>(first | rfl | exact ⟨rfl,rfl⟩ | exact ⟨rfl,rfl,rfl⟩ | skip)
def qEy (code:List Int) (k:Int) (c:Cur) (l:List Ins):List Ins×Cur :=
 if k=0 then (l.set (qM code c l.length).1.toNat (qCz code (qM code c l.length).2 (l.getD 0 default)).1,(qCz code (qM code c l.length).2 (l.getD 0 default)).2)
 else if k=1 then (l.take (l.length-1),c) else (l,c)
def lT (code:List Int) (c:Cur):List Ins×Cur:=qEy code (qM code (aN code c 3).2 12).1 (qM code (aN code c 3).2 12).2 (aN code c 3).1
theorem qEx (code:List Int) (c:Cur):(lT code c).1.length≤24:=by
 have h:=lS code c 3
 unfold lT qEy
 repeat' split
 ·simp; omega
 ·simp; omega
 ·exact h.2
theorem qE0 (code:List Int) (c:Cur) (hb:code.length<2^62):wJ Try.prog num 484 [.ptr 0 0 0] [(0,some (3,[eU code c]),some (3,[eU code (lT code c).2]))] (.sl .own 5 (vO (lT code c).1)):=by
 refine EH m484 Try.func41 ?_
 unfold m484 lT
 simp only [go_sem,seval]
 repeat refine K ?_
 refine CA [(0,0)] (pF code c 3 hb) ?_
 try simp only [go_sem,seval]
 repeat refine K ?_
 have hbl:=lS code c 3
 generalize aN code c 3=r at hbl
 obtain ⟨l,d⟩:=r
 simp only at hbl⊢
 try simp only [go_sem,seval]
 repeat refine K ?_
 refine CA [(0,0)] (yG code d 12 hb) ?_
 try simp only [go_sem,seval]
 repeat refine K ?_
 generalize qM code d 12=k
 obtain ⟨k,e⟩:=k
 simp only
 unfold qEy
 by_cases k0:k=0
 ·subst k0
  have hg:=gF l 0 (by omega)
  have h0:0<l.length:=by omega
  have h1:(0:Int)<(l.length:Nat):=by omega
  try simp only [go_sem,seval,reduceCtorEq,hg,h0,h1]
  repeat refine K ?_
  have hr:=jE code e l.length (by omega)
  have cb:=yG code e l.length hb
  generalize qM code e l.length=x at *
  obtain ⟨x,f⟩:=x
  simp only at hr cb⊢
  refine DA [(0,0)] (cb) ?_
  try simp only [go_sem,seval]
  repeat refine K ?_
  try simp only [go_sem,seval]
  repeat refine K ?_
  refine DA [(0,0)] (qMx code f (l.getD 0 default) hb) ?_
  try simp only [go_sem,seval]
  repeat refine K ?_
  have x0:0≤x:=hr.1
  have x1:x<(l.length:Nat):=hr.2
  have x2:x.toNat<l.length:=by omega
  try simp only [go_sem,seval,x0,x1,x2,gF l x.toNat x2]
  repeat refine K ?_
  apply wD
  ·exact Sub.refl _
  ·simp [-qYt,-gD,]<;>(first | rfl | exact ⟨rfl,rfl⟩ | exact ⟨rfl,rfl,rfl⟩ | skip)
 by_cases k1:k=1
 ·subst k1
  have w1:IntKind.i64.wrap ((l.length:Int)-1)=((l.length-1:Nat):Int):=by rw [jF (by omega) (by omega)]; omega
  try simp only [go_sem,seval,reduceCtorEq,w1]
  repeat refine K ?_
  apply wD
  ·exact Sub.refl _
  ·simp [-qYt,-gD,]<;>(first | rfl | exact ⟨rfl,rfl⟩ | exact ⟨rfl,rfl,rfl⟩ | skip)
   intro h
   exact absurd h (by omega)
 try simp only [go_sem,seval,k0,k1]
 repeat refine K ?_
 apply wD
 ·exact Sub.refl _
 ·simp [-qYt,-gD,k0,k1]<;>(first | rfl | exact ⟨rfl,rfl⟩ | exact ⟨rfl,rfl,rfl⟩ | skip)
theorem qEe (code:List Int) (hb:code.length<2^62):wJ Try.prog num 476 [.sl .fz 1 (bys code)] [] (.sl .own 5 (vO (lT code (mZ code)).1)):=by
 refine EN m476 Try.func13 ?_
 unfold m476
 simp only [go_sem,seval]
 repeat refine K ?_
 refine fX (qJ8 (n1:=11) [(10,10)] (qKq code hb) ?_ ?_ ?_ ?_ ?_ ?_ ?_) ?_
 any_goals (first | omega | (simp [wN,wP]; done) | (simp [wN,wP, *]; done))
 try simp only [go_sem,seval]
 repeat refine K ?_
 refine CA [(0,10)] (qE0 code (mZ code) hb) ?_
 try simp only [go_sem,seval]
 repeat refine K ?_
 try simp only [go_sem,seval]
 repeat refine K ?_
 refine ⟨_,Sub.refl _,wL ?_⟩; simp [-qYt]
end Go.Sep
