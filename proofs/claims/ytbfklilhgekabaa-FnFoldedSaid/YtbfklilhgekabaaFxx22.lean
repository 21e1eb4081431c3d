/- Contracts of functions. -/
import Derived.Test.YtbfklilhgekabaaFxx14
import Derived.Test.YtbfklilhgekabaaFxx15
open List renaming drop_one → wAu
namespace Go.Sep
set_option maxHeartbeats 16000000
open Go.Proofs
set_option linter.unusedSimpArgs false
set_option linter.unusedVariables false
set_option maxRecDepth 100000
open Nat renaming reduceAdd → qA, reduceMul → qB, reduceEqDiff → qC, reduceBEq → qD
open Int renaming reduceToNat → qE, reduceEq → qF, reduceLT → qG, reduceLE → qH
open List renaming getD_eq_getElem?_getD → gD
def m168:MFn:=⟨31,[.cell 2 2 true,.t 3],kr [xo 2 (.alloc [.nil,.nil]),xo 3 (.mv (.c (.nil)))] (kr [xv 8 0,xo 9 (.call 37 [true] [.t 8]),xv 4 9] (kr [xv 10 4,xo 11 (.call 55 [true] [.t 10]),xo 5 (.alloc [.nil,.nil]),xS 2 5 11] (kr [xo 12 (.mkSl [xz] 0 []),xv 6 12] (.seq (kr [xI 7 0] (.blk 0 (.loop (.seq (kr [xv 13 7,xv 14 4,xv 15 0,xc3 16 213 (.t 15) (xi 60) (xi 120),xo 17 (.call 39 [true,false] [.t 14,.t 16]),bT 18 .lss 13 17] (kX 18 0)) (.seq (.blk 1 (xr [xv 21 6,xv 22 4,xa 23 1 5,xl 24 23,xe 25 24,xo 26 (.call 39 [true,false] [.t 22,.t 25]),xo 27 (.mkSl [xz] 1 [(0,.t 26)]),xA 28 1 8 21 27,xv 6 28])) (xr [xv 19 7,bI 20 .add 19 1,xv 7 20])))))) (kR [xm 29 2 5,xv 30 6,xS 2 2 29,xv 3 30])))))⟩
def m478:MFn:=⟨36,[.cell 2 5 true,.t 3,.t 4],kr [xo 2 (.alloc [xz,xz,xz,xz,xz]),xo 3 (.mv (.c (.nil))),xI 4 0] (kr [xv 10 0,xo 11 (.call 37 [true] [.t 10]),xv 5 11] (kr [xv 12 0,xo 13 (.call 485 [true] [.t 12]),xo 6 (.alloc [xz,xz,xz,xz,xz]),xS 5 6 13] (kr [xo 14 (.mkSl [.bool false,.int .i64 0] 0 []),xv 7 14] (kr [xI 8 4] (.seq (kr [xv 15 5,xo 16 (.call 40 [true,false] [.t 15,xi 10])] (.cond 16 (xr [xI 8 3]) (.skip))) (.seq (kr [xI 9 0] (.blk 0 (.loop (.seq (kr [xv 17 9,xv 18 8,bT 19 .lss 17 18] (kX 19 0)) (.seq (.blk 1 (xr [xv 22 7,xv 23 5,xo 24 (.call 40 [true,false] [.t 23,xi 3]),xN 25 24,xv 26 5,xo 27 (.mkSl [xz] 7 [(0,xi 0),(1,xi 0),(2,xi 1),(3,xi 5),(4,.c (.int .i64 (-3))),(5,xi 1000000000),(6,xi 9223372036854775807)]),xo 28 (.call 56 [true,false] [.t 26,.t 27]),xo 29 (.build [.bool false,.int .i64 0] [(0,1,.t 25),(1,1,.t 28)]),xo 30 (.mkSl [.bool false,.int .i64 0] 1 [(0,.t 29)]),xA 31 2 16 22 30,xv 7 31])) (xr [xv 20 9,bI 21 .add 20 1,xv 9 21])))))) (.seq (.dreg (.take 0 (xm 32 5 6) (.take 1 (xv 33 7) (.only 2 [] (xv 34 5) (.only 3 [] (xo 35 (.call 39 [true,false] [.t 34,xi 9])) (.only 4 [0] (xS 5 2 32) (.only 5 [0,1] (xv 3 33) (.only 6 [0,1] (xv 4 35) (.done))))))))) (.ret))))))))⟩
def m479:MFn:=⟨6,[.t 2],kr [xo 2 (.mv (.c (.nil)))] (kR [xv 3 0,xo 4 (.call 37 [true] [.t 3]),xo 5 (.call 484 [true] [.t 4]),xv 2 5])⟩
def m480:MFn:=⟨6,[.cell 2 2 true],kr [xo 2 (.alloc [.nil,.nil])] (kR [xv 3 0,xo 4 (.call 37 [true] [.t 3]),xo 5 (.call 38 [true] [.t 4]),xS 2 2 5])⟩
def m484:MFn:=⟨29,[.t 2],kr [xo 2 (.mv (.c (.nil)))] (kr [xv 4 0,xo 5 (.call 77 [true,false] [.t 4,xi 3]),xv 3 5] (.seq (kr [xv 6 0,xo 7 (.call 39 [true,false] [.t 6,xi 12])] (.blk 0 (kr [bI 9 .eql 7 0,xv 8 9] (.cond 8 (.dreg (.take 0 (xv 10 3) (.take 1 (xv 11 0) (.take 2 (xv 12 3) (.take 3 (xe 13 12) (.take 5 (xv 15 0) (.take 6 (xv 16 3) (.take 7 (xo 17 (.iad 5 (.t 16) (xi 0))) (.take 8 (xm 18 5 17) (.only 4 [1,3,2] (xo 14 (.call 39 [true,false] [.t 11,.t 13])) (.only 9 [4,5,8,1,3,7,2,6] (xo 19 (.call 57 [true,false] [.t 15,.t 18])) (.only 10 [0,1,2,3,5,6,7,8] (xD 20 5 10 14) (.only 11 [0,1,2,3,5,6,7,8] (xS 5 20 19) (.done)))))))))))))) (kr [bI 22 .eql 7 1,xv 21 22] (kF 21 [xv 23 3,xv 24 3,xe 25 24,bI 26 .sub 25 1,xo 27 (.cut 5 (.t 23) none (some (.t 26))),xv 2 27])))))) (kR [xv 28 3,xv 2 28])))⟩
def m485:MFn:=⟨15,[.cell 2 5 true],kr [xo 2 (.alloc [xz,xz,xz,xz,xz])] (kr [xv 5 0,xo 6 (.call 37 [true] [.t 5]),xv 3 6] (kr [xv 7 3,xo 8 (.call 91 [true,false,false] [.t 7,xi 8,xi 2]),xo 4 (.alloc [xz,xz,xz,xz,xz]),xS 5 4 8] (.seq (kr [xv 9 3,xo 10 (.call 40 [true,false] [.t 9,xi 3])] (.cond 10 (xr [xv 11 3,xm 12 5 4,xo 13 (.call 57 [true,false] [.t 11,.t 12]),xS 5 4 13]) (.skip))) (kR [xm 14 5 4,xS 5 2 14]))))⟩
def qXt (code:List Int) (c:Cur) (n:Nat):List Int×Cur:=dK code 0 (qAb code.length 60 120) (fun d=>qN code d n) 120 0 c []
def mA (code:List Int):wV×List Int:=((dI code (eE code)).1,(qXt code (dI code (eE code)).2 (dI code (eE code)).1.bods.length).1)
theorem qRv (code:List Int):yT (mA code).1=true∧(mA code).2.length≤120∧∀x∈(mA code).2,0≤x∧x<(mA code).1.bods.length:=by
 refine ⟨qH9 code (eE code),?_,?_⟩
 ·have h:=(eY (code:=code) (base:=0) (m:=qAb code.length 60 120) (step:=fun d=>qN code d (dI code (eE code)).1.bods.length) 120 0 (dI code (eE code)).2 []).2
  simpa [mA,qXt] using h
 ·have hb:=(pV code (eE code)).2.2.1
  exact mO (Q:=fun x=>0≤x∧x<((dI code (eE code)).1.bods.length:Int)) (fun d=>jB code d _ (by omega)) 120 0 _ [] (by simp)
theorem qFs (code:List Int) (hb:code.length<2^62):wA Try.prog num 168 [.sl .fz 1 (bys code)] [] (.tup [.agg (vN .own (mA code).1),.sl .own 1 (wR (mA code).2)]):=by
 have hm:=qUi code.length (show (60:Int)≤120 by omega)
 refine EN m168 Try.func12 ?_
 unfold m168 mA
 simp only [go_sem,seval]
 repeat refine K ?_
 refine zW (rN (n1:=12) [(10,11)] (oO code hb) ?_ ?_ ?_ ?_ ?_ ?_ ?_) ?_
 any_goals (first | omega | (simp [wB,wC]; done) | (simp [wB,wC, *]; done))
 try simp only [go_sem,seval]
 repeat refine K ?_
 refine CA [(0,11)] (oP code (eE code) hb) ?_
 try simp only [go_sem,seval]
 repeat refine K ?_
 generalize dI code (eE code)=r
 obtain ⟨p,d⟩:=r
 simp only
 unfold qXt
 try simp only [go_sem,seval]
 repeat refine K ?_
 have clong:=qSg code 60 120 hb (by omega)
 generalize qAb code.length 60 120=w at *
 refine wD (ι:=Nat×Cur×List Int) (fun s=>.mk [(0,.sl .fz 1 (bys code)),(2,.ptr 10 0 0),(4,.ptr 11 0 0),(5,.ptr 14 0 0),(6,.ns 15 0 s.1),(7,.int .i64 s.1)] [(10,2,[[.nil,.nil]]),(11,3,[aY code s.2.1]),(14,2,[vN .own p]),(15,1,wR s.2.2)] 16) (fun s=>s.1≤120∧s.2.2.length=s.1∧dK code 0 w (fun d=>qN code d p.bods.length) (120-s.1) s.1 s.2.1 s.2.2=dK code 0 w (fun d=>qN code d p.bods.length) 120 0 d []) (fun s=>120-s.1) (0,d,[]) ⟨by simp,rfl,rfl⟩ ?_ ?_
 ·refine Sub.trans (Sub.fold1 14 0 12 rfl (by simp [-gD]<;>omega) rfl (by decide) (by decide) rfl) ?_
  simp only [fS,fS3,qA,qC]
  refine Sub.trans (Sub.fold1 14 1 13 rfl (by simp [-gD]<;>omega) rfl (by decide) (by decide) rfl) ?_
  simp only [fS,fS3,qA,qC]
  refine Sub.shape [] id (by omega) ?_ ?_ ?_ ?_<;>simp [qL]
  exact .inl rfl
 ·rintro ⟨j,f,acc⟩ ⟨hj,hl,hd⟩
  simp only at hj hl hd⊢
  simp only [go_sem,seval]
  refine CA [] (clong) ?_
  try simp only [go_sem,seval]
  repeat refine K ?_
  try simp only [go_sem,seval]
  repeat refine K ?_
  refine CA [(0,11)] (yB code f w hb) ?_
  try simp only [go_sem,seval]
  repeat refine K ?_
  have hr:=jB code f w (by omega)
  try simp only [go_sem,seval]
  repeat refine K ?_
  refine qS (fun hc=>?_) (fun hc=>?_)
  ·simp only [decide_eq_true_eq] at hc
   have hg:=qIr (code:=code) (base:=0) (m:=w) (step:=fun d=>qN code d p.bods.length) (N:=120) (i:=j) (c:=f) (acc:=acc) (by omega) (by omega)
   rw [hg] at hd
   try simp only at hd
   simp only [go_sem,seval,qW (i:=j) (by omega),hl]
   repeat refine K ?_
   refine CA [(0,11)] (yB code (qN code f w).2 p.bods.length hb) ?_
   try simp only [go_sem,seval]
   repeat refine K ?_
   try simp only [go_sem,seval,qW (i:=j) (by omega),hl]
   repeat refine K ?_
   refine qU (j+1,(qN code (qN code f w).2 p.bods.length).2,acc++[(qN code (qN code f w).2 p.bods.length).1]) ?_ ⟨by simp only; omega,by simp only [List.length_append,hl]; rfl,hd⟩ (by simp only; omega)
   refine Sub.trans (Sub.fold1 14 1 16 rfl (by simp [-gD]<;>omega) rfl (by decide) (by decide) rfl) ?_
   simp only [fS,fS3,qA,qC]
   refine Sub.shape [] (fun n=>if n=15 then 18 else n) (by omega) ?_ ?_ ?_ ?_<;>simp [qL]
   exact .inl (qBu _ _)
  ·simp only [decide_eq_false_iff_not] at hc
   rw [qCt (by omega)] at hd
   simp only [go_sem,seval]
   repeat refine K ?_
   rw [←hd]
   apply rK (by simp)
   ·exact Sub.refl _
   ·simp [-wAu,-gD,hl]<;>(first | rfl | exact ⟨rfl,rfl⟩ | exact ⟨rfl,rfl,rfl⟩ | skip)
def qGd (code:List Int) (k:Int) (c:Cur) (l:List Ins):List Ins×Cur :=
 if k=0 then (l.set (qN code c l.length).1.toNat (nU code (qN code c l.length).2 (l.getD 0 default)).1,(nU code (qN code c l.length).2 (l.getD 0 default)).2)
 else if k=1 then (l.take (l.length-1),c) else (l,c)
def mX (code:List Int) (c:Cur):List Ins×Cur:=qGd code (qN code (eB code c 3).2 12).1 (qN code (eB code c 3).2 12).2 (eB code c 3).1
theorem qGc (code:List Int) (c:Cur):(mX code c).1.length≤24:=by
 have h:=mW code c 3
 unfold mX qGd
 repeat' split
 ·simp; omega
 ·simp; omega
 ·exact h.2
theorem qFd (code:List Int) (c:Cur) (hb:code.length<2^62):wA Try.prog num 484 [.ptr 0 0 0] [(0,some (3,[aY code c]),some (3,[aY code (mX code c).2]))] (.sl .own 5 (jG (mX code c).1)):=by
 refine EH m484 Try.func41 ?_
 unfold m484 mX
 simp only [go_sem,seval]
 repeat refine K ?_
 refine CA [(0,0)] (sA code c 3 hb) ?_
 try simp only [go_sem,seval]
 repeat refine K ?_
 have hbl:=mW code c 3
 generalize eB code c 3=r at hbl
 obtain ⟨l,d⟩:=r
 simp only at hbl⊢
 try simp only [go_sem,seval]
 repeat refine K ?_
 refine CA [(0,0)] (yB code d 12 hb) ?_
 try simp only [go_sem,seval]
 repeat refine K ?_
 generalize qN code d 12=k
 obtain ⟨k,e⟩:=k
 simp only
 unfold qGd
 by_cases k0:k=0
 ·subst k0
  have hg:=vB l 0 (by omega)
  have h0:0<l.length:=by omega
  have h1:(0:Int)<(l.length:Nat):=by omega
  try simp only [go_sem,seval,reduceCtorEq,hg,h0,h1]
  repeat refine K ?_
  have hr:=jB code e l.length (by omega)
  have cb:=yB code e l.length hb
  generalize qN code e l.length=x at *
  obtain ⟨x,f⟩:=x
  simp only at hr cb⊢
  refine DA [(0,0)] (cb) ?_
  try simp only [go_sem,seval]
  repeat refine K ?_
  try simp only [go_sem,seval]
  repeat refine K ?_
  refine DA [(0,0)] (sU code f (l.getD 0 default) hb) ?_
  try simp only [go_sem,seval]
  repeat refine K ?_
  have x0:0≤x:=hr.1
  have x1:x<(l.length:Nat):=hr.2
  have x2:x.toNat<l.length:=by omega
  try simp only [go_sem,seval,x0,x1,x2,vB l x.toNat x2]
  repeat refine K ?_
  apply wG
  ·exact Sub.refl _
  ·simp [-wAu,-gD,]<;>(first | rfl | exact ⟨rfl,rfl⟩ | exact ⟨rfl,rfl,rfl⟩ | skip)
 by_cases k1:k=1
 ·subst k1
  have w1:IntKind.i64.wrap ((l.length:Int)-1)=((l.length-1:Nat):Int):=by rw [jD (by omega) (by omega)]; omega
  try simp only [go_sem,seval,reduceCtorEq,w1]
  repeat refine K ?_
  apply wG
  ·exact Sub.refl _
  ·simp [-wAu,-gD,]<;>(first | rfl | exact ⟨rfl,rfl⟩ | exact ⟨rfl,rfl,rfl⟩ | skip)
   intro h
   exact absurd h (by omega)
 try simp only [go_sem,seval,k0,k1]
 repeat refine K ?_
 apply wG
 ·exact Sub.refl _
 ·simp [-wAu,-gD,k0,k1]<;>(first | rfl | exact ⟨rfl,rfl⟩ | exact ⟨rfl,rfl,rfl⟩ | skip)
theorem qDg (code:List Int) (hb:code.length<2^62):wA Try.prog num 479 [.sl .fz 1 (bys code)] [] (.sl .own 5 (jG (mX code (eE code)).1)):=by
 refine EN m479 Try.func19 ?_
 unfold m479
 simp only [go_sem,seval]
 repeat refine K ?_
 refine zW (rN (n1:=11) [(10,10)] (oO code hb) ?_ ?_ ?_ ?_ ?_ ?_ ?_) ?_
 any_goals (first | omega | (simp [wB,wC]; done) | (simp [wB,wC, *]; done))
 try simp only [go_sem,seval]
 repeat refine K ?_
 refine CA [(0,10)] (qFd code (eE code) hb) ?_
 try simp only [go_sem,seval]
 repeat refine K ?_
 try simp only [go_sem,seval]
 repeat refine K ?_
 refine ⟨_,Sub.refl _,wI ?_⟩; simp [-wAu]
theorem qDf (code:List Int) (hb:code.length<2^62):wA Try.prog num 480 [.sl .fz 1 (bys code)] [] (.agg (vN .own (qAq code (eE code)).1)):=by
 refine EN m480 Try.func20 ?_
 unfold m480
 simp only [go_sem,seval]
 repeat refine K ?_
 refine zW (rN (n1:=12) [(10,11)] (oO code hb) ?_ ?_ ?_ ?_ ?_ ?_ ?_) ?_
 any_goals (first | omega | (simp [wB,wC]; done) | (simp [wB,wC, *]; done))
 try simp only [go_sem,seval]
 repeat refine K ?_
 refine CA [(0,11)] (qSh code (eE code) hb) ?_
 try simp only [go_sem,seval]
 repeat refine K ?_
 try simp only [go_sem,seval]
 repeat refine K ?_
 apply wG
 ·exact Sub.refl _
 ·simp [-wAu,-gD,]<;>(first | rfl | exact ⟨rfl,rfl⟩ | exact ⟨rfl,rfl,rfl⟩ | skip)
def qXb (code:List Int) (q:Ins×Cur):Ins:=if (dN code q.2 3).1 then (nU code (dN code q.2 3).2 q.1).1 else q.1
def qU1 (code:List Int):Ins:=qXb code (rW code (eE code) 8 2)
theorem qK9 (code:List Int) (hb:code.length<2^62):wA Try.prog num 485 [.sl .fz 1 (bys code)] [] (.agg (vU (qU1 code))):=by
 refine EN m485 Try.func50 ?_
 unfold m485 qU1
 simp only [go_sem,seval]
 repeat refine K ?_
 refine zW (rN (n1:=12) [(10,11)] (oO code hb) ?_ ?_ ?_ ?_ ?_ ?_ ?_) ?_
 any_goals (first | omega | (simp [wB,wC]; done) | (simp [wB,wC, *]; done))
 try simp only [go_sem,seval]
 repeat refine K ?_
 refine CA [(0,11)] (qAc code (eE code) 8 2 hb) ?_
 try simp only [go_sem,seval]
 repeat refine K ?_
 generalize rW code (eE code) 8 2=q
 obtain ⟨x,d⟩:=q
 unfold qXb
 simp only
 try simp only [go_sem,seval]
 repeat refine K ?_
 refine CA [(0,11)] (lC code d 3 hb) ?_
 try simp only [go_sem,seval]
 repeat refine K ?_
 generalize dN code d 3=o
 obtain ⟨o,e⟩:=o
 simp only
 cases o
 ·try simp only [go_sem,seval]
  repeat refine K ?_
  apply wG
  ·exact Sub.refl _
  ·simp [-wAu,-gD,vU]<;>(first | rfl | exact ⟨rfl,rfl⟩ | exact ⟨rfl,rfl,rfl⟩ | skip)
 ·try simp only [go_sem,seval]
  repeat refine K ?_
  refine CA [(0,11)] (sU code e x hb) ?_
  try simp only [go_sem,seval]
  repeat refine K ?_
  try simp only [go_sem,seval]
  repeat refine K ?_
  apply wG
  ·exact Sub.refl _
  ·simp [-wAu,-gD,vU]<;>(first | rfl | exact ⟨rfl,rfl⟩ | exact ⟨rfl,rfl,rfl⟩ | skip)
def bZ (code:List Int) (d:Cur):vZ×Cur:=(⟨!(dN code d 3).1,(aT code (dN code d 3).2 [0,0,1,5,-3,1000000000,9223372036854775807]).1⟩,(aT code (dN code d 3).2 [0,0,1,5,-3,1000000000,9223372036854775807]).2)
def qWu (b:Bool):Nat:=if b then 3 else 4
def rJ (code:List Int) (n:Nat) (c:Cur):List vZ×Int:=((uN (bZ code) n c).1,(qN code (uN (bZ code) n c).2 9).1)
def lI (code:List Int):List vZ×Int:=rJ code (qWu (dN code (eE code) 10).1) (dN code (eE code) 10).2
theorem qKj (code:List Int):(lI code).1.length≤4:=by
 unfold lI rJ qWu
 simp only [zB]
 split<;>omega
theorem qFt (code:List Int) (hb:code.length<2^62):wA Try.prog num 478 [.sl .fz 1 (bys code)] [] (.tup [.agg (vU (qU1 code)),.sl .own 2 (wN (lI code).1),.int .i64 (lI code).2]):=by
 refine EN m478 Try.func18 ?_
 unfold m478 lI
 simp only [go_sem,seval]
 repeat refine K ?_
 refine zW (rN (n1:=12) [(10,11)] (oO code hb) ?_ ?_ ?_ ?_ ?_ ?_ ?_) ?_
 any_goals (first | omega | (simp [wB,wC]; done) | (simp [wB,wC, *]; done))
 try simp only [go_sem,seval]
 repeat refine K ?_
 refine CA [] (qK9 code hb) ?_
 try simp only [go_sem,seval]
 repeat refine K ?_
 generalize qU1 code=x
 try simp only [go_sem,seval]
 repeat refine K ?_
 refine CA [(0,11)] (lC code (eE code) 10 hb) ?_
 try simp only [go_sem,seval]
 repeat refine K ?_
 generalize dN code (eE code) 10=o
 obtain ⟨o,d⟩:=o
 simp only
 have hl:wR [0,0,1,5,-3,1000000000,9223372036854775807]=[[AV.int .i64 0],[.int .i64 0],[.int .i64 1],[.int .i64 5],[.int .i64 (-3)],[.int .i64 1000000000],[.int .i64 9223372036854775807]]:=rfl
 cases o
 ·unfold qWu
  simp only [Bool.false_eq_true,if_false,if_true]
  try simp only [go_sem,seval]
  repeat refine K ?_
  refine wD (ι:=Nat) (fun i=>.mk [(2,.ptr 10 0 0),(5,.ptr 11 0 0),(6,.ptr 12 0 0),(7,.ns 13 0 i),(8,.int .i64 4),(9,.int .i64 i)] [(10,5,[[.int .i64 0,.int .i64 0,.int .i64 0,.int .i64 0,.int .i64 0]]),(11,3,[aY code (uN (bZ code) i d).2]),(12,5,[vU x]),(13,2,wN (uN (bZ code) i d).1)] 14) (fun i=>i≤4) (fun i=>4-i) 0 (by simp) ?_ ?_
  ·refine Sub.shape [] id (by omega) ?_ ?_ ?_ ?_<;>simp [qL]
   all_goals simp [uN,wN]
  ·intro i hi
   have hml:=zB (bZ code) d i
   have hst:uN (bZ code) (i+1) d=((uN (bZ code) i d).1++[(bZ code (uN (bZ code) i d).2).1],(bZ code (uN (bZ code) i d).2).2):=rfl
   unfold rJ
   generalize hw:uN (bZ code) i d=w at hml hst
   obtain ⟨acc,f⟩:=w
   simp only at hml hst⊢
   have hks :∀f,bZ code f=(⟨!(dN code f 3).1,(aT code (dN code f 3).2 [0,0,1,5,-3,1000000000,9223372036854775807]).1⟩,(aT code (dN code f 3).2 [0,0,1,5,-3,1000000000,9223372036854775807]).2):=fun _=>rfl
   rw [hks f] at hst
   clear hks
   simp only [go_sem,seval]
   refine qS (fun hc=>?_) (fun hc=>?_)
   ·simp only [decide_eq_true_eq] at hc
    simp only [go_sem,seval,qW (i:=i) (by omega),hml]
    repeat refine K ?_
    refine CA [(0,11)] (lC code f 3 hb) ?_
    try simp only [go_sem,seval]
    repeat refine K ?_
    generalize dN code f 3=b at *
    obtain ⟨b,g⟩:=b
    simp only at hst⊢
    try simp only [go_sem,seval,←hl]
    repeat refine K ?_
    refine CA [(0,11)] (aV code g [0,0,1,5,-3,1000000000,9223372036854775807] hb (by decide)) ?_
    try simp only [go_sem,seval]
    repeat refine K ?_
    try simp only [go_sem,seval,qW (i:=i) (by omega),hml]
    repeat refine K ?_
    refine qU (i+1) ?_ (by omega) (by omega)
    rw [hst]
    refine Sub.shape [] (fun n=>if n=13 then 16 else n) (by omega) ?_ ?_ ?_ ?_<;>simp [qL]
    exact .inl (by simp [wN,fU])
   ·simp only [decide_eq_false_iff_not] at hc
    have hie:i=4:=by omega
    subst hie
    rw [hw]
    simp only [go_sem,seval]
    repeat refine K ?_
    refine DA [(0,11)] (yB code f 9 hb) ?_
    try simp only [go_sem,seval]
    repeat refine K ?_
    try simp only [go_sem,seval,hml]
    repeat refine K ?_
    apply rK (by simp)
    ·exact Sub.refl _
    ·simp [-wAu,-gD,vU]<;>(first | rfl | exact ⟨rfl,rfl⟩ | exact ⟨rfl,rfl,rfl⟩ | skip)
     exact ⟨by omega,fun h=>absurd hml h⟩
 ·unfold qWu
  simp only [Bool.false_eq_true,if_false,if_true]
  try simp only [go_sem,seval]
  repeat refine K ?_
  refine wD (ι:=Nat) (fun i=>.mk [(2,.ptr 10 0 0),(5,.ptr 11 0 0),(6,.ptr 12 0 0),(7,.ns 13 0 i),(8,.int .i64 3),(9,.int .i64 i)] [(10,5,[[.int .i64 0,.int .i64 0,.int .i64 0,.int .i64 0,.int .i64 0]]),(11,3,[aY code (uN (bZ code) i d).2]),(12,5,[vU x]),(13,2,wN (uN (bZ code) i d).1)] 14) (fun i=>i≤3) (fun i=>3-i) 0 (by simp) ?_ ?_
  ·refine Sub.shape [] id (by omega) ?_ ?_ ?_ ?_<;>simp [qL]
   all_goals simp [uN,wN]
  ·intro i hi
   have hml:=zB (bZ code) d i
   have hst:uN (bZ code) (i+1) d=((uN (bZ code) i d).1++[(bZ code (uN (bZ code) i d).2).1],(bZ code (uN (bZ code) i d).2).2):=rfl
   unfold rJ
   generalize hw:uN (bZ code) i d=w at hml hst
   obtain ⟨acc,f⟩:=w
   simp only at hml hst⊢
   have hks :∀f,bZ code f=(⟨!(dN code f 3).1,(aT code (dN code f 3).2 [0,0,1,5,-3,1000000000,9223372036854775807]).1⟩,(aT code (dN code f 3).2 [0,0,1,5,-3,1000000000,9223372036854775807]).2):=fun _=>rfl
   rw [hks f] at hst
   clear hks
   simp only [go_sem,seval]
   refine qS (fun hc=>?_) (fun hc=>?_)
   ·simp only [decide_eq_true_eq] at hc
    simp only [go_sem,seval,qW (i:=i) (by omega),hml]
    repeat refine K ?_
    refine CA [(0,11)] (lC code f 3 hb) ?_
    try simp only [go_sem,seval]
    repeat refine K ?_
    generalize dN code f 3=b at *
    obtain ⟨b,g⟩:=b
    simp only at hst⊢
    try simp only [go_sem,seval,←hl]
    repeat refine K ?_
    refine CA [(0,11)] (aV code g [0,0,1,5,-3,1000000000,9223372036854775807] hb (by decide)) ?_
    try simp only [go_sem,seval]
    repeat refine K ?_
    try simp only [go_sem,seval,qW (i:=i) (by omega),hml]
    repeat refine K ?_
    refine qU (i+1) ?_ (by omega) (by omega)
    rw [hst]
    refine Sub.shape [] (fun n=>if n=13 then 16 else n) (by omega) ?_ ?_ ?_ ?_<;>simp [qL]
    exact .inl (by simp [wN,fU])
   ·simp only [decide_eq_false_iff_not] at hc
    have hie:i=3:=by omega
    subst hie
    rw [hw]
    simp only [go_sem,seval]
    repeat refine K ?_
    refine DA [(0,11)] (yB code f 9 hb) ?_
    try simp only [go_sem,seval]
    repeat refine K ?_
    try simp only [go_sem,seval,hml]
    repeat refine K ?_
    apply rK (by simp)
    ·exact Sub.refl _
    ·simp [-wAu,-gD,vU]<;>(first | rfl | exact ⟨rfl,rfl⟩ | exact ⟨rfl,rfl,rfl⟩ | skip)
     exact ⟨by omega,fun h=>absurd hml h⟩
end Go.Sep
