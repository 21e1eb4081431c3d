/- Contracts of functions. -/
import Derived.Test.YtfecojefbnnknaaLxx14
import Derived.Test.YtfecojefbnnknaaLxx18
open List renaming drop_one → wBe, take_of_length_le → wA3
namespace Go.Sep
set_option maxHeartbeats 16000000
open Go.Proofs
set_option linter.unusedSimpArgs false
set_option linter.unusedVariables false
set_option maxRecDepth 100000
open Nat renaming reduceAdd → qA, reduceMul → qB, reduceEqDiff → qC, reduceBEq → qD
open Int renaming reduceToNat → qE, reduceEq → qF, reduceLT → qG, reduceLE → qH
open List renaming getD_eq_getElem?_getD → gD
theorem qQ6 {p:wU} {s:qS} {i:Nat} {t:yJ} {n:Int} (h:n<((body p i).length:Int)):vM p s i t true n=⟨s.ths.set i ⟨n,t.regs,t.st⟩,s.chs,s.tr⟩:=by
 unfold vM
 rw [if_neg]
 rintro (e | e)
 ·exact absurd e (by decide)
 ·have h2:n<((p.bods.getD i []).length:Int):=h
  omega
theorem qUr {p:wU} {s:qS} {i:Nat} {t:yJ} {n:Int}:vM p s i t false n=⟨s.ths.set i ⟨t.at_,t.regs,2⟩,s.chs,s.tr⟩:=by
 unfold vM
 rw [if_pos (.inl rfl)]
theorem qUh {x:Ins} (h:x.op=11∨x.op=12) (i:Nat) (regs:List Int) (c:jS) (chs:List jS) (tr:List bK):cC x regs c=regs∧qCs x regs chs=chs∧eL x regs c=true∧qCq i x regs tr=tr:=by
 have hx:lB x=false:=by unfold lB; simp; omega
 refine ⟨?_,?_,?_,?_⟩
 ·unfold cC
  rw [if_neg (by omega),if_neg (by omega),hx]
  rfl
 ·unfold qCs
  rw [hx]
  rfl
 ·unfold eL
  rw [hx]
  rfl
 ·unfold qCq
  rw [if_neg (by omega)]
def qWu (p:wU) (n:Nat):qS:=rZ p (jR p).1 (List.replicate n 0)
def Beh (p q:wU):Prop :=∀n,∃m,m≤n∧(qWu q m).tr=(qWu p n).tr∧(thd (qWu q m) 0).st=(thd (qWu p n) 0).st
theorem Beh.refl (p:wU):Beh p p:=fun n=>⟨n,Nat.le_refl _,rfl,rfl⟩
theorem Beh.trans {p q r:wU} (h:Beh p q) (k:Beh q r):Beh p r:=by
 intro n
 obtain ⟨m,h1,h2,h3⟩:=h n
 obtain ⟨m',k1,k2,k3⟩:=k m
 exact ⟨m',by omega,by rw [k2,h2],by rw [k3,h3]⟩
theorem qUv {α:Type} (d:α) {l k:List α} (h:l.length=k.length) (e :∀i,i<l.length→l.getD i d=k.getD i d):l=k:=by
 refine List.ext_getElem h fun i h1 h2=>?_
 have:=e i h1
 simpa [List.getD_eq_getElem?_getD,h1,h2] using this
def m168:MFn:=⟨31,[.cell 2 2 true,.t 3],kr [xo 2 (.alloc [.nil,.nil]),xo 3 (.mv (.c (.nil)))] (kr [xv 8 0,xo 9 (.call 37 [true] [.t 8]),xv 4 9] (kr [xv 10 4,xo 11 (.call 55 [true] [.t 10]),xo 5 (.alloc [.nil,.nil]),xS 2 5 11] (kr [xo 12 (.mkSl [xz] 0 []),xv 6 12] (.seq (kr [xI 7 0] (.blk 0 (.loop (.seq (kr [xv 13 7,xv 14 4,xv 15 0,xc3 16 213 (.t 15) (xi 60) (xi 120),xo 17 (.call 39 [true,false] [.t 14,.t 16]),bT 18 .lss 13 17] (kX 18 0)) (.seq (.blk 1 (xr [xv 21 6,xv 22 4,xa 23 1 5,xl 24 23,xe 25 24,xo 26 (.call 39 [true,false] [.t 22,.t 25]),xo 27 (.mkSl [xz] 1 [(0,.t 26)]),xA 28 1 8 21 27,xv 6 28])) (xr [xv 19 7,bI 20 .add 19 1,xv 7 20])))))) (kR [xm 29 2 5,xv 30 6,xS 2 2 29,xv 3 30])))))⟩
def m484:MFn:=⟨29,[.t 2],kr [xo 2 (.mv (.c (.nil)))] (kr [xv 4 0,xo 5 (.call 77 [true,false] [.t 4,xi 3]),xv 3 5] (.seq (kr [xv 6 0,xo 7 (.call 39 [true,false] [.t 6,xi 12])] (.blk 0 (kr [bI 9 .eql 7 0,xv 8 9] (.cond 8 (.dreg (.take 0 (xv 10 3) (.take 1 (xv 11 0) (.take 2 (xv 12 3) (.take 3 (xe 13 12) (.take 5 (xv 15 0) (.take 6 (xv 16 3) (.take 7 (xo 17 (.iad 5 (.t 16) (xi 0))) (.take 8 (xm 18 5 17) (.only 4 [1,3,2] (xo 14 (.call 39 [true,false] [.t 11,.t 13])) (.only 9 [4,5,8,1,3,7,2,6] (xo 19 (.call 57 [true,false] [.t 15,.t 18])) (.only 10 [0,1,2,3,5,6,7,8] (xD 20 5 10 14) (.only 11 [0,1,2,3,5,6,7,8] (xS 5 20 19) (.done)))))))))))))) (kr [bI 22 .eql 7 1,xv 21 22] (kF 21 [xv 23 3,xv 24 3,xe 25 24,bI 26 .sub 25 1,xo 27 (.cut 5 (.t 23) none (some (.t 26))),xv 2 27])))))) (kR [xv 28 3,xv 2 28])))⟩
def qY7 (code:List Int) (c:Cur) (n:Nat):List Int×Cur:=dF code 0 (sR code.length 60 120) (fun d=>qP code d n) 120 0 c []
def kQ (code:List Int):wU×List Int:=((zB code (mV code)).1,(qY7 code (zB code (mV code)).2 (zB code (mV code)).1.bods.length).1)
theorem qRg (code:List Int):vC (kQ code).1=true∧(kQ code).2.length≤120∧∀x∈(kQ code).2,0≤x∧x<(kQ code).1.bods.length:=by
 refine ⟨qGc code (mV code),?_,?_⟩
 ·have h:=(eD (code:=code) (base:=0) (m:=sR code.length 60 120) (step:=fun d=>qP code d (zB code (mV code)).1.bods.length) 120 0 (zB code (mV code)).2 []).2
  simpa [kQ,qY7] using h
 ·have hb:=(qH5 code (mV code)).2.2.1
  exact lG (Q:=fun x=>0≤x∧x<((zB code (mV code)).1.bods.length:Int)) (fun d=>yW code d _ (by omega)) 120 0 _ [] (by simp)
theorem qEz (code:List Int) (hb:code.length<2^62):wD Try.prog num 168 [.sl .fz 1 (bys code)] [] (.tup [.agg (dU .own (kQ code).1),.sl .own 1 (wC (kQ code).2)]):=by
 have hm:=qU9 code.length (show (60:Int)≤120 by omega)
 refine EN m168 Try.func7 ?_
 unfold m168 kQ
 simp only [go_sem,seval]
 repeat refine K ?_
 refine fT (qK6 (n1:=12) [(10,11)] (qLw code hb) ?_ ?_ ?_ ?_ ?_ ?_ ?_) ?_
 any_goals (first | omega | (simp [wM,wL]; done) | (simp [wM,wL, *]; done))
 try simp only [go_sem,seval]
 repeat refine K ?_
 refine CA [(0,11)] (qEo code (mV code) hb) ?_
 try simp only [go_sem,seval]
 repeat refine K ?_
 generalize zB code (mV code)=r
 obtain ⟨p,d⟩:=r
 simp only
 unfold qY7
 try simp only [go_sem,seval]
 repeat refine K ?_
 have clong:=qS4 code 60 120 hb (by omega)
 generalize sR code.length 60 120=w at *
 refine wE (ι:=Nat×Cur×List Int) (fun s=>.mk [(0,.sl .fz 1 (bys code)),(2,.ptr 10 0 0),(4,.ptr 11 0 0),(5,.ptr 14 0 0),(6,.ns 15 0 s.1),(7,.int .i64 s.1)] [(10,2,[[.nil,.nil]]),(11,3,[eS code s.2.1]),(14,2,[dU .own p]),(15,1,wC s.2.2)] 16) (fun s=>s.1≤120∧s.2.2.length=s.1∧dF code 0 w (fun d=>qP code d p.bods.length) (120-s.1) s.1 s.2.1 s.2.2=dF code 0 w (fun d=>qP code d p.bods.length) 120 0 d []) (fun s=>120-s.1) (0,d,[]) ⟨by simp,rfl,rfl⟩ ?_ ?_
 ·refine Sub.trans (Sub.fold1 14 0 12 rfl (by simp [-gD]<;>omega) rfl (by decide) (by decide) rfl) ?_
  simp only [fS,fS3,qA,qC]
  refine Sub.trans (Sub.fold1 14 1 13 rfl (by simp [-gD]<;>omega) rfl (by decide) (by decide) rfl) ?_
  simp only [fS,fS3,qA,qC]
  refine Sub.shape [] id (by omega) ?_ ?_ ?_ ?_<;>simp [qM]
  exact .inl rfl
 ·rintro ⟨j,f,acc⟩ ⟨hj,hl,hd⟩
  simp only at hj hl hd⊢
  simp only [go_sem,seval]
  refine CA [] (clong) ?_
  try simp only [go_sem,seval]
  repeat refine K ?_
  try simp only [go_sem,seval]
  repeat refine K ?_
  refine CA [(0,11)] (yE code f w hb) ?_
  try simp only [go_sem,seval]
  repeat refine K ?_
  have hr:=yW code f w (by omega)
  try simp only [go_sem,seval]
  repeat refine K ?_
  refine qU (fun hc=>?_) (fun hc=>?_)
  ·simp only [decide_eq_true_eq] at hc
   have hg:=qHw (code:=code) (base:=0) (m:=w) (step:=fun d=>qP code d p.bods.length) (N:=120) (i:=j) (c:=f) (acc:=acc) (by omega) (by omega)
   rw [hg] at hd
   try simp only at hd
   simp only [go_sem,seval,wA (i:=j) (by omega),hl]
   repeat refine K ?_
   refine CA [(0,11)] (yE code (qP code f w).2 p.bods.length hb) ?_
   try simp only [go_sem,seval]
   repeat refine K ?_
   try simp only [go_sem,seval,wA (i:=j) (by omega),hl]
   repeat refine K ?_
   refine qW (j+1,(qP code (qP code f w).2 p.bods.length).2,acc++[(qP code (qP code f w).2 p.bods.length).1]) ?_ ⟨by simp only; omega,by simp only [List.length_append,hl]; rfl,hd⟩ (by simp only; omega)
   refine Sub.trans (Sub.fold1 14 1 16 rfl (by simp [-gD]<;>omega) rfl (by decide) (by decide) rfl) ?_
   simp only [fS,fS3,qA,qC]
   refine Sub.shape [] (fun n=>if n=15 then 18 else n) (by omega) ?_ ?_ ?_ ?_<;>simp [qM]
   exact .inl (oM _ _)
  ·simp only [decide_eq_false_iff_not] at hc
   rw [qC1 (by omega)] at hd
   simp only [go_sem,seval]
   repeat refine K ?_
   rw [←hd]
   apply qD8 (by simp)
   ·exact Sub.refl _
   ·simp [-wBe,-gD,hl]<;>(first | rfl | exact ⟨rfl,rfl⟩ | exact ⟨rfl,rfl,rfl⟩ | skip)
def qFn (code:List Int) (k:Int) (c:Cur) (l:List Ins):List Ins×Cur :=
 if k=0 then (l.set (qP code c l.length).1.toNat (qDq code (qP code c l.length).2 (l.getD 0 default)).1,(qDq code (qP code c l.length).2 (l.getD 0 default)).2)
 else if k=1 then (l.take (l.length-1),c) else (l,c)
def lO (code:List Int) (c:Cur):List Ins×Cur:=qFn code (qP code (aL code c 3).2 12).1 (qP code (aL code c 3).2 12).2 (aL code c 3).1
theorem qFm (code:List Int) (c:Cur):(lO code c).1.length≤24:=by
 have h:=lN code c 3
 unfold lO qFn
 repeat' split
 ·simp; omega
 ·simp; omega
 ·exact h.2
theorem qEp (code:List Int) (c:Cur) (hb:code.length<2^62):wD Try.prog num 484 [.ptr 0 0 0] [(0,some (3,[eS code c]),some (3,[eS code (lO code c).2]))] (.sl .own 5 (vR (lO code c).1)):=by
 refine EH m484 Try.func42 ?_
 unfold m484 lO
 simp only [go_sem,seval]
 repeat refine K ?_
 refine CA [(0,0)] (pD code c 3 hb) ?_
 try simp only [go_sem,seval]
 repeat refine K ?_
 have hbl:=lN code c 3
 generalize aL code c 3=r at hbl
 obtain ⟨l,d⟩:=r
 simp only at hbl⊢
 try simp only [go_sem,seval]
 repeat refine K ?_
 refine CA [(0,0)] (yE code d 12 hb) ?_
 try simp only [go_sem,seval]
 repeat refine K ?_
 generalize qP code d 12=k
 obtain ⟨k,e⟩:=k
 simp only
 unfold qFn
 by_cases k0:k=0
 ·subst k0
  have hg:=bY l 0 (by omega)
  have h0:0<l.length:=by omega
  have h1:(0:Int)<(l.length:Nat):=by omega
  try simp only [go_sem,seval,reduceCtorEq,hg,h0,h1]
  repeat refine K ?_
  have hr:=yW code e l.length (by omega)
  have cb:=yE code e l.length hb
  generalize qP code e l.length=x at *
  obtain ⟨x,f⟩:=x
  simp only at hr cb⊢
  refine DA [(0,0)] (cb) ?_
  try simp only [go_sem,seval]
  repeat refine K ?_
  try simp only [go_sem,seval]
  repeat refine K ?_
  refine DA [(0,0)] (qO2 code f (l.getD 0 default) hb) ?_
  try simp only [go_sem,seval]
  repeat refine K ?_
  have x0:0≤x:=hr.1
  have x1:x<(l.length:Nat):=hr.2
  have x2:x.toNat<l.length:=by omega
  try simp only [go_sem,seval,x0,x1,x2,bY l x.toNat x2]
  repeat refine K ?_
  apply wH
  ·exact Sub.refl _
  ·simp [-wBe,-gD,]<;>(first | rfl | exact ⟨rfl,rfl⟩ | exact ⟨rfl,rfl,rfl⟩ | skip)
 by_cases k1:k=1
 ·subst k1
  have w1:IntKind.i64.wrap ((l.length:Int)-1)=((l.length-1:Nat):Int):=by rw [yG (by omega) (by omega)]; omega
  try simp only [go_sem,seval,reduceCtorEq,w1]
  repeat refine K ?_
  apply wH
  ·exact Sub.refl _
  ·simp [-wBe,-gD,]<;>(first | rfl | exact ⟨rfl,rfl⟩ | exact ⟨rfl,rfl,rfl⟩ | skip)
   intro h
   exact absurd h (by omega)
 try simp only [go_sem,seval,k0,k1]
 repeat refine K ?_
 apply wH
 ·exact Sub.refl _
 ·simp [-wBe,-gD,k0,k1]<;>(first | rfl | exact ⟨rfl,rfl⟩ | exact ⟨rfl,rfl,rfl⟩ | skip)
def m160:MFn:=⟨26,[.t 4],kr [xF 4] (.seq (kr [xv 6 0,xe 7 6,xv 8 1,xe 9 8,bT 10 .neq 7 9] (kF 10 [xF 4])) (.seq (kr [xI 5 0] (.blk 0 (.loop (.seq (kr [xv 11 5,xv 12 0,xe 13 12,bT 14 .lss 11 13] (kX 14 0)) (.seq (.blk 1 (.seq (.dreg (.take 0 (xv 17 0) (.take 1 (xv 18 5) (.take 2 (xD 19 2 17 18) (.take 3 (xm 20 2 19) (.take 4 (xv 21 1) (.only 5 [] (xv 22 5) (.only 6 [4] (xD 23 2 21 22) (.only 7 [6,4] (xm 24 2 23) (.only 8 [3,7,2,6,0,1,4] (xo 25 (.eqS true [true,true] (.t 20) (.t 24))) (.done))))))))))) (kF 25 [xF 4]))) (xr [xv 15 5,bI 16 .add 15 1,xv 5 16])))))) (kR [xT 4])))⟩
theorem qRo {a b:List bK} (i:Nat) (ha:i<a.length) (hb:i<b.length) (h:a.take i=b.take i) (he:a.getD i default=b.getD i default):a.take (i+1)=b.take (i+1):=by
 rw [bD a default i ha,bD b default i hb,h,he]
theorem qJ7 (a b:List bK) (ha:a.length<2^47):wD Try.prog num 160 [.sl .bw 2 (yT a),.sl .bw 2 (yT b)] [] (.bool (decide (a=b))):=by
 refine EN m160 Try.func15 ?_
 unfold m160
 by_cases hl:a.length=b.length
 ·have d0:(!decide ((a.length:Int)=(b.length:Int)))=false:=by simp [hl]
  simp only [go_sem,seval,d0]
  refine wE (ι:=Nat) (fun i=>.mk [(0,.sl .bw 2 (yT a)),(1,.sl .bw 2 (yT b)),(5,.int .i64 i)] [] 10) (fun i=>i≤a.length∧a.take i=b.take i) (fun i=>a.length-i) 0 (by simp) ?_ ?_
  ·refine Sub.shape [] id (by omega) ?_ ?_ ?_ ?_<;>simp [qM]
  ·rintro i ⟨hi,hp⟩
   simp only [go_sem,seval]
   refine qU (fun hc=>?_) (fun hc=>?_)
   ·simp only [decide_eq_true_eq] at hc
    have hil:i<a.length:=by omega
    have g1:=pY a i hil
    have g2:=pY b i (by omega)
    have ht:=qRo i hil (by omega) hp
    have hdec:(decide ((a.getD i default).who=(b.getD i default).who)&&decide ((a.getD i default).v=(b.getD i default).v))=decide (a.getD i default=b.getD i default):=by
     generalize a.getD i default=x
     generalize b.getD i default=y
     obtain ⟨x1,x2⟩:=x
     obtain ⟨y1,y2⟩:=y
     by_cases h1:x1=y1<;>by_cases h2:x2=y2<;>simp [h1,h2]
    simp only [go_sem,seval,g1,g2,hdec,wA (i:=i) (by omega)]
    repeat refine K ?_
    by_cases he:a.getD i default=b.getD i default
    ·have h2:=ht he
     have d3:(!decide (a.getD i default=b.getD i default))=false:=by rw [decide_eq_true he]; rfl
     try simp only [go_sem,seval,d3,wA (i:=i) (by omega)]
     refine qW (i+1) (Sub.shape [] id (by omega) ?_ ?_ ?_ ?_) ⟨hil,h2⟩ (by omega)<;>simp [qM]
    ·have hne :¬a=b:=fun e=>he (by rw [e])
     have d3:(!decide (a.getD i default=b.getD i default))=true:=by rw [decide_eq_false he]; rfl
     try simp only [go_sem,seval,d3]
     refine fz ?_; simp [yL,wM,wL,wR,-wBe]
     all_goals simp [hne]
   ·simp only [decide_eq_false_iff_not] at hc
    have hab:a=b:=by
     have h1:a.take i=a:=wA3 (by omega)
     have h2:b.take i=b:=wA3 (by omega)
     rw [←h1,hp,h2]
    simp only [go_sem,seval]
    refine fz ?_; simp [yL,wM,wL,wR,-wBe]
    all_goals simp [hab]
 ·have d0:(!decide ((a.length:Int)=(b.length:Int)))=true:=by simp; omega
  have hne :¬a=b:=fun e=>hl (by rw [e])
  simp only [go_sem,seval,d0]
  refine fz ?_; simp [yL,wM,wL,wR,-wBe]
  all_goals simp [hne]
end Go.Sep
