/- Contracts of functions. -/
import Derived.Test.YtfecojefbnnknaaGreatRxx14
import Derived.Test.YtfecojefbnnknaaGreatRxx15
open List renaming drop_one → wD9, take_of_length_le → wBy
namespace Go.Sep
set_option maxHeartbeats 16000000
open Go.Proofs
set_option linter.unusedSimpArgs false
set_option linter.unusedVariables false
set_option maxRecDepth 100000
open Nat renaming reduceAdd → qA, reduceMul → qB, reduceEqDiff → qC, reduceBEq → qD
open Int renaming reduceToNat → qE, reduceEq → qF, reduceLT → qG, reduceLE → qH
open List renaming getD_eq_getElem?_getD → gD
def m168:MFn:=⟨31,[.cell 2 2 true,.t 3],kr [xo 2 (.alloc [.nil,.nil]),xo 3 (.mv (.c (.nil)))] (kr [xv 8 0,xo 9 (.call 37 [true] [.t 8]),xv 4 9] (kr [xv 10 4,xo 11 (.call 55 [true] [.t 10]),xo 5 (.alloc [.nil,.nil]),xS 2 5 11] (kr [xo 12 (.mkSl [xz] 0 []),xv 6 12] (.seq (kr [xI 7 0] (.blk 0 (.loop (.seq (kr [xv 13 7,xv 14 4,xv 15 0,xc3 16 213 (.t 15) (xi 60) (xi 120),xo 17 (.call 39 [true,false] [.t 14,.t 16]),bT 18 .lss 13 17] (kX 18 0)) (.seq (.blk 1 (xr [xv 21 6,xv 22 4,xa 23 1 5,xl 24 23,xe 25 24,xo 26 (.call 39 [true,false] [.t 22,.t 25]),xo 27 (.mkSl [xz] 1 [(0,.t 26)]),xA 28 1 8 21 27,xv 6 28])) (xr [xv 19 7,bI 20 .add 19 1,xv 7 20])))))) (kR [xm 29 2 5,xv 30 6,xS 2 2 29,xv 3 30])))))⟩
def m484:MFn:=⟨29,[.t 2],kr [xo 2 (.mv (.c (.nil)))] (kr [xv 4 0,xo 5 (.call 77 [true,false] [.t 4,xi 3]),xv 3 5] (.seq (kr [xv 6 0,xo 7 (.call 39 [true,false] [.t 6,xi 12])] (.blk 0 (kr [bI 9 .eql 7 0,xv 8 9] (.cond 8 (.dreg (.take 0 (xv 10 3) (.take 1 (xv 11 0) (.take 2 (xv 12 3) (.take 3 (xe 13 12) (.take 5 (xv 15 0) (.take 6 (xv 16 3) (.take 7 (xo 17 (.iad 5 (.t 16) (xi 0))) (.take 8 (xm 18 5 17) (.only 4 [1,3,2] (xo 14 (.call 39 [true,false] [.t 11,.t 13])) (.only 9 [4,5,8,1,3,7,2,6] (xo 19 (.call 57 [true,false] [.t 15,.t 18])) (.only 10 [0,1,2,3,5,6,7,8] (xD 20 5 10 14) (.only 11 [0,1,2,3,5,6,7,8] (xS 5 20 19) (.done)))))))))))))) (kr [bI 22 .eql 7 1,xv 21 22] (kF 21 [xv 23 3,xv 24 3,xe 25 24,bI 26 .sub 25 1,xo 27 (.cut 5 (.t 23) none (some (.t 26))),xv 2 27])))))) (kR [xv 28 3,xv 2 28])))⟩
def wA3 (code:List Int) (c:Cur) (n:Nat):List Int×Cur:=dL code 0 (qAe code.length 60 120) (fun d=>qR code d n) 120 0 c []
def fL (code:List Int):wQ×List Int:=((dJ code (cJ code)).1,(wA3 code (dJ code (cJ code)).2 (dJ code (cJ code)).1.bods.length).1)
theorem qTg (code:List Int):yR (fL code).1=true∧(fL code).2.length≤120∧∀x∈(fL code).2,0≤x∧x<(fL code).1.bods.length:=by
 refine ⟨qHl code (cJ code),?_,?_⟩
 ·have h:=(eQ (code:=code) (base:=0) (m:=qAe code.length 60 120) (step:=fun d=>qR code d (dJ code (cJ code)).1.bods.length) 120 0 (dJ code (cJ code)).2 []).2
  simpa [fL,wA3] using h
 ·have hb:=(pT code (cJ code)).2.2.1
  exact mO (Q:=fun x=>0≤x∧x<((dJ code (cJ code)).1.bods.length:Int)) (fun d=>jC code d _ (by omega)) 120 0 _ [] (by simp)
theorem qG5 (code:List Int) (hb:code.length<2^62):qY Tryz.prog num 168 [.sl .fz 1 (bys code)] [] (.tup [.agg (jY .own (fL code).1),.sl .own 1 (wE (fL code).2)]):=by
 have hm:=qW7 code.length (show (60:Int)≤120 by omega)
 refine EN m168 Tryz.func7 ?_
 unfold m168 fL
 simp only [go_sem,seval]
 repeat refine K ?_
 refine zQ (rI (n1:=12) [(10,11)] (oO code hb) ?_ ?_ ?_ ?_ ?_ ?_ ?_) ?_
 any_goals (first | omega | (simp [wJ,wK]; done) | (simp [wJ,wK, *]; done))
 try simp only [go_sem,seval]
 repeat refine K ?_
 refine CA [(0,11)] (oP code (cJ code) hb) ?_
 try simp only [go_sem,seval]
 repeat refine K ?_
 generalize dJ code (cJ code)=r
 obtain ⟨p,d⟩:=r
 simp only
 unfold wA3
 try simp only [go_sem,seval]
 repeat refine K ?_
 have clong:=qU2 code 60 120 hb (by omega)
 generalize qAe code.length 60 120=w at *
 refine qZ (ι:=Nat×Cur×List Int) (fun s=>.mk [(0,.sl .fz 1 (bys code)),(2,.ptr 10 0 0),(4,.ptr 11 0 0),(5,.ptr 14 0 0),(6,.ns 15 0 s.1),(7,.int .i64 s.1)] [(10,2,[[.nil,.nil]]),(11,3,[eI code s.2.1]),(14,2,[jY .own p]),(15,1,wE s.2.2)] 16) (fun s=>s.1≤120∧s.2.2.length=s.1∧dL code 0 w (fun d=>qR code d p.bods.length) (120-s.1) s.1 s.2.1 s.2.2=dL code 0 w (fun d=>qR code d p.bods.length) 120 0 d []) (fun s=>120-s.1) (0,d,[]) ⟨by simp,rfl,rfl⟩ ?_ ?_
 ·refine Sub.trans (Sub.fold1 14 0 12 rfl (by simp [-gD]<;>omega) rfl (by decide) (by decide) rfl) ?_
  simp only [fS,fS3,qA,qC]
  refine Sub.trans (Sub.fold1 14 1 13 rfl (by simp [-gD]<;>omega) rfl (by decide) (by decide) rfl) ?_
  simp only [fS,fS3,qA,qC]
  refine Sub.shape [] id (by omega) ?_ ?_ ?_ ?_<;>simp [qK]
  exact .inl rfl
 ·rintro ⟨j,f,acc⟩ ⟨hj,hl,hd⟩
  simp only at hj hl hd⊢
  simp only [go_sem,seval]
  refine CA [] (clong) ?_
  try simp only [go_sem,seval]
  repeat refine K ?_
  try simp only [go_sem,seval]
  repeat refine K ?_
  refine CA [(0,11)] (yG code f w hb) ?_
  try simp only [go_sem,seval]
  repeat refine K ?_
  have hr:=jC code f w (by omega)
  try simp only [go_sem,seval]
  repeat refine K ?_
  refine qP (fun hc=>?_) (fun hc=>?_)
  ·simp only [decide_eq_true_eq] at hc
   have hg:=qJh (code:=code) (base:=0) (m:=w) (step:=fun d=>qR code d p.bods.length) (N:=120) (i:=j) (c:=f) (acc:=acc) (by omega) (by omega)
   rw [hg] at hd
   try simp only at hd
   simp only [go_sem,seval,qN (i:=j) (by omega),hl]
   repeat refine K ?_
   refine CA [(0,11)] (yG code (qR code f w).2 p.bods.length hb) ?_
   try simp only [go_sem,seval]
   repeat refine K ?_
   try simp only [go_sem,seval,qN (i:=j) (by omega),hl]
   repeat refine K ?_
   refine qM (j+1,(qR code (qR code f w).2 p.bods.length).2,acc++[(qR code (qR code f w).2 p.bods.length).1]) ?_ ⟨by simp only; omega,by simp only [List.length_append,hl]; rfl,hd⟩ (by simp only; omega)
   refine Sub.trans (Sub.fold1 14 1 16 rfl (by simp [-gD]<;>omega) rfl (by decide) (by decide) rfl) ?_
   simp only [fS,fS3,qA,qC]
   refine Sub.shape [] (fun n=>if n=15 then 18 else n) (by omega) ?_ ?_ ?_ ?_<;>simp [qK]
   exact .inl (eF _ _)
  ·simp only [decide_eq_false_iff_not] at hc
   rw [qD3 (by omega)] at hd
   simp only [go_sem,seval]
   repeat refine K ?_
   rw [←hd]
   apply qEc (by simp)
   ·exact Sub.refl _
   ·simp [-wD9,-gD,hl]<;>(first | rfl | exact ⟨rfl,rfl⟩ | exact ⟨rfl,rfl,rfl⟩ | skip)
def qGs (code:List Int) (k:Int) (c:Cur) (l:List Ins):List Ins×Cur :=
 if k=0 then (l.set (qR code c l.length).1.toNat (sK code (qR code c l.length).2 (l.getD 0 default)).1,(sK code (qR code c l.length).2 (l.getD 0 default)).2)
 else if k=1 then (l.take (l.length-1),c) else (l,c)
def iQ (code:List Int) (c:Cur):List Ins×Cur:=qGs code (qR code (aU code c 3).2 12).1 (qR code (aU code c 3).2 12).2 (aU code c 3).1
theorem qGr (code:List Int) (c:Cur):(iQ code c).1.length≤24:=by
 have h:=mW code c 3
 unfold iQ qGs
 repeat' split
 ·simp; omega
 ·simp; omega
 ·exact h.2
theorem oQ (code:List Int) (c:Cur) (hb:code.length<2^62):qY Tryz.prog num 484 [.ptr 0 0 0] [(0,some (3,[eI code c]),some (3,[eI code (iQ code c).2]))] (.sl .own 5 (yV (iQ code c).1)):=by
 refine EH m484 Tryz.func51 ?_
 unfold m484 iQ
 simp only [go_sem,seval]
 repeat refine K ?_
 refine CA [(0,0)] (rW code c 3 hb) ?_
 try simp only [go_sem,seval]
 repeat refine K ?_
 have hbl:=mW code c 3
 generalize aU code c 3=r at hbl
 obtain ⟨l,d⟩:=r
 simp only at hbl⊢
 try simp only [go_sem,seval]
 repeat refine K ?_
 refine CA [(0,0)] (yG code d 12 hb) ?_
 try simp only [go_sem,seval]
 repeat refine K ?_
 generalize qR code d 12=k
 obtain ⟨k,e⟩:=k
 simp only
 unfold qGs
 by_cases k0:k=0
 ·subst k0
  have hg:=jQ l 0 (by omega)
  have h0:0<l.length:=by omega
  have h1:(0:Int)<(l.length:Nat):=by omega
  try simp only [go_sem,seval,reduceCtorEq,hg,h0,h1]
  repeat refine K ?_
  have hr:=jC code e l.length (by omega)
  have cb:=yG code e l.length hb
  generalize qR code e l.length=x at *
  obtain ⟨x,f⟩:=x
  simp only at hr cb⊢
  refine DA [(0,0)] (cb) ?_
  try simp only [go_sem,seval]
  repeat refine K ?_
  try simp only [go_sem,seval]
  repeat refine K ?_
  refine DA [(0,0)] (qFv code f (l.getD 0 default) hb) ?_
  try simp only [go_sem,seval]
  repeat refine K ?_
  have x0:0≤x:=hr.1
  have x1:x<(l.length:Nat):=hr.2
  have x2:x.toNat<l.length:=by omega
  try simp only [go_sem,seval,x0,x1,x2,jQ l x.toNat x2]
  repeat refine K ?_
  apply wI
  ·exact Sub.refl _
  ·simp [-wD9,-gD,]<;>(first | rfl | exact ⟨rfl,rfl⟩ | exact ⟨rfl,rfl,rfl⟩ | skip)
 by_cases k1:k=1
 ·subst k1
  have w1:IntKind.i64.wrap ((l.length:Int)-1)=((l.length-1:Nat):Int):=by rw [yL (by omega) (by omega)]; omega
  try simp only [go_sem,seval,reduceCtorEq,w1]
  repeat refine K ?_
  apply wI
  ·exact Sub.refl _
  ·simp [-wD9,-gD,]<;>(first | rfl | exact ⟨rfl,rfl⟩ | exact ⟨rfl,rfl,rfl⟩ | skip)
   intro h
   exact absurd h (by omega)
 try simp only [go_sem,seval,k0,k1]
 repeat refine K ?_
 apply wI
 ·exact Sub.refl _
 ·simp [-wD9,-gD,k0,k1]<;>(first | rfl | exact ⟨rfl,rfl⟩ | exact ⟨rfl,rfl,rfl⟩ | skip)
def m160:MFn:=⟨26,[.t 4],kr [xF 4] (.seq (kr [xv 6 0,xe 7 6,xv 8 1,xe 9 8,bT 10 .neq 7 9] (kF 10 [xF 4])) (.seq (kr [xI 5 0] (.blk 0 (.loop (.seq (kr [xv 11 5,xv 12 0,xe 13 12,bT 14 .lss 11 13] (kX 14 0)) (.seq (.blk 1 (.seq (.dreg (.take 0 (xv 17 0) (.take 1 (xv 18 5) (.take 2 (xD 19 2 17 18) (.take 3 (xm 20 2 19) (.take 4 (xv 21 1) (.only 5 [] (xv 22 5) (.only 6 [4] (xD 23 2 21 22) (.only 7 [6,4] (xm 24 2 23) (.only 8 [3,7,2,6,0,1,4] (xo 25 (.eqS true [true,true] (.t 20) (.t 24))) (.done))))))))))) (kF 25 [xF 4]))) (xr [xv 15 5,bI 16 .add 15 1,xv 5 16])))))) (kR [xT 4])))⟩
def m481:MFn:=⟨26,[.t 4],kr [xF 4] (.seq (kr [xv 6 0,xe 7 6,xv 8 1,xe 9 8,bT 10 .neq 7 9] (kF 10 [xF 4])) (.seq (kr [xI 5 0] (.blk 0 (.loop (.seq (kr [xv 11 5,xv 12 0,xe 13 12,bT 14 .lss 11 13] (kX 14 0)) (.seq (.blk 1 (.seq (.dreg (.take 0 (xv 17 0) (.take 1 (xv 18 5) (.take 2 (xD 19 5 17 18) (.take 3 (xm 20 5 19) (.take 4 (xv 21 1) (.only 5 [] (xv 22 5) (.only 6 [4] (xD 23 5 21 22) (.only 7 [6,4] (xm 24 5 23) (.only 8 [3,7,2,6,0,1,4] (xo 25 (.eqS true [true,true,true,true,true] (.t 20) (.t 24))) (.done))))))))))) (kF 25 [xF 4]))) (xr [xv 15 5,bI 16 .add 15 1,xv 5 16])))))) (kR [xT 4])))⟩
def m482:MFn:=⟨40,[.t 4],kr [xb 2 0,xb 3 1,xF 4] (.seq (kr [xa 6 0 2,xl 7 6,xa 8 0 3,xl 9 8,xc2 10 23 (.t 7) (.t 9),xN 11 10,xv 12 11,za 13 1 2 12,zl 14 1 13 12,ze 15 14 12,za 16 1 3 12,zl 17 1 16 12,ze 18 17 12,xg 19 (.bin .neq (.t 15) (.t 18)) 12 false,xQ 20 12 19] (kF 20 [xF 4])) (.seq (kr [xI 5 0] (.blk 0 (.loop (.seq (kr [xv 21 5,xa 22 1 2,xl 23 22,xe 24 23,bT 25 .lss 21 24] (kX 25 0)) (.seq (.blk 1 (.seq (.dreg (.take 0 (xa 28 1 2) (.take 1 (xl 29 28) (.take 2 (xv 30 5) (.take 3 (xD 31 1 29 30) (.take 4 (xl 32 31) (.take 5 (xa 33 1 3) (.take 6 (xl 34 33) (.only 7 [] (xv 35 5) (.only 8 [6,5] (xD 36 1 34 35) (.only 9 [8,6,5] (xl 37 36) (.only 10 [4,9,3,8,1,2,6,0,5] (xc2 38 481 (.t 32) (.t 37)) (.only 11 [10,4,9,3,8,1,2,6,0,5] (xN 39 38) (.done)))))))))))))) (kF 39 [xF 4]))) (xr [xv 26 5,bI 27 .add 26 1,xv 5 27])))))) (kR [xT 4])))⟩
theorem qTo {a b:List bP} (i:Nat) (ha:i<a.length) (hb:i<b.length) (h:a.take i=b.take i) (he:a.getD i default=b.getD i default):a.take (i+1)=b.take (i+1):=by
 rw [jX a default i ha,jX b default i hb,h,he]
theorem qKv (a b:List bP) (ha:a.length<2^47):qY Tryz.prog num 160 [.sl .bw 2 (yY a),.sl .bw 2 (yY b)] [] (.bool (decide (a=b))):=by
 refine EN m160 Tryz.func26 ?_
 unfold m160
 by_cases hl:a.length=b.length
 ·have d0:(!decide ((a.length:Int)=(b.length:Int)))=false:=by simp [hl]
  simp only [go_sem,seval,d0]
  refine qZ (ι:=Nat) (fun i=>.mk [(0,.sl .bw 2 (yY a)),(1,.sl .bw 2 (yY b)),(5,.int .i64 i)] [] 10) (fun i=>i≤a.length∧a.take i=b.take i) (fun i=>a.length-i) 0 (by simp) ?_ ?_
  ·refine Sub.shape [] id (by omega) ?_ ?_ ?_ ?_<;>simp [qK]
  ·rintro i ⟨hi,hp⟩
   simp only [go_sem,seval]
   refine qP (fun hc=>?_) (fun hc=>?_)
   ·simp only [decide_eq_true_eq] at hc
    have hil:i<a.length:=by omega
    have g1:=sR a i hil
    have g2:=sR b i (by omega)
    have ht:=qTo i hil (by omega) hp
    have hdec:(decide ((a.getD i default).who=(b.getD i default).who)&&decide ((a.getD i default).v=(b.getD i default).v))=decide (a.getD i default=b.getD i default):=by
     generalize a.getD i default=x
     generalize b.getD i default=y
     obtain ⟨x1,x2⟩:=x
     obtain ⟨y1,y2⟩:=y
     by_cases h1:x1=y1<;>by_cases h2:x2=y2<;>simp [h1,h2]
    simp only [go_sem,seval,g1,g2,hdec,qN (i:=i) (by omega)]
    repeat refine K ?_
    by_cases he:a.getD i default=b.getD i default
    ·have h2:=ht he
     have d3:(!decide (a.getD i default=b.getD i default))=false:=by rw [decide_eq_true he]; rfl
     try simp only [go_sem,seval,d3,qN (i:=i) (by omega)]
     refine qM (i+1) (Sub.shape [] id (by omega) ?_ ?_ ?_ ?_) ⟨hil,h2⟩ (by omega)<;>simp [qK]
    ·have hne :¬a=b:=fun e=>he (by rw [e])
     have d3:(!decide (a.getD i default=b.getD i default))=true:=by rw [decide_eq_false he]; rfl
     try simp only [go_sem,seval,d3]
     refine fz ?_; simp [yQ,wJ,wK,wR,-wD9]
     all_goals simp [hne]
   ·simp only [decide_eq_false_iff_not] at hc
    have hab:a=b:=by
     have h1:a.take i=a:=wBy (by omega)
     have h2:b.take i=b:=wBy (by omega)
     rw [←h1,hp,h2]
    simp only [go_sem,seval]
    refine fz ?_; simp [yQ,wJ,wK,wR,-wD9]
    all_goals simp [hab]
 ·have d0:(!decide ((a.length:Int)=(b.length:Int)))=true:=by simp; omega
  have hne :¬a=b:=fun e=>hl (by rw [e])
  simp only [go_sem,seval,d0]
  refine fz ?_; simp [yQ,wJ,wK,wR,-wD9]
  all_goals simp [hne]
theorem qF1 (l:List Ins) (hl:l.length<2^40):qY Tryz.prog num 481 [.sl .bw 5 (yV l),.sl .bw 5 (yV l)] [] (.bool true):=by
 refine EN m481 Tryz.func16 ?_
 unfold m481
 simp only [go_sem,seval]
 repeat refine K ?_
 refine qZ (ι:=Nat) (fun i=>.mk [(0,.sl .bw 5 (yV l)),(1,.sl .bw 5 (yV l)),(5,.int .i64 i)] [] 10) (fun i=>i≤l.length) (fun i=>l.length-i) 0 (by simp) ?_ ?_
 ·refine Sub.shape [] id (by omega) ?_ ?_ ?_ ?_<;>simp [qK]
 ·intro i hi
  simp only [go_sem,seval]
  refine qP (fun hc=>?_) (fun hc=>?_)
  ·simp only [decide_eq_true_eq] at hc
   have hil:i<l.length:=by omega
   simp only [go_sem,seval,jQ l i hil,qN (i:=i) (by omega)]
   repeat refine K ?_
   refine qM (i+1) (Sub.shape [] id (by omega) ?_ ?_ ?_ ?_) ?_ ?_
   any_goals (first | omega | (simp [qK]; done))
  ·simp only [decide_eq_false_iff_not] at hc
   simp only [go_sem,seval]
   repeat refine K ?_
   refine fz ?_; simp [yQ,wJ,wK,wR,-wD9]
theorem qMt (p:wQ) (hp:aW p):qY Tryz.prog num 482 [.agg (jY .bw p),.agg (jY .bw p)] [] (.bool true):=by
 have hbl:=hp.bods
 have hcl:=hp.caps
 refine EN m482 Tryz.func19 ?_
 unfold m482
 simp only [go_sem,seval]
 repeat refine K ?_
 refine CA [] (iE p.caps p.caps (by omega)) ?_
 try simp only [go_sem,seval]
 repeat refine K ?_
 try simp only [go_sem,seval]
 repeat refine K ?_
 refine qZ (ι:=Nat) (fun i=>.mk [(2,.ptr 10 0 0),(3,.ptr 11 0 0),(5,.int .i64 i)] [(10,2,[jY .bw p]),(11,2,[jY .bw p])] 12) (fun i=>i≤p.bods.length) (fun i=>p.bods.length-i) 0 (by simp) ?_ ?_
 ·refine Sub.shape [] id (by omega) ?_ ?_ ?_ ?_<;>simp [qK]
 ·intro i hi
  simp only [go_sem,seval]
  refine qP (fun hc=>?_) (fun hc=>?_)
  ·simp only [decide_eq_true_eq] at hc
   have hil:i<p.bods.length:=by omega
   have hg:=wB .bw p.bods i hil
   have hb:=hp.body _ (yB p.bods i [] hil)
   simp only [go_sem,seval,hg]
   repeat refine K ?_
   refine DA [] (qF1 (p.bods.getD i []) hb) ?_
   try simp only [go_sem,seval]
   repeat refine K ?_
   try simp only [go_sem,seval,qN (i:=i) (by omega)]
   repeat refine K ?_
   refine qM (i+1) (Sub.shape [] id (by omega) ?_ ?_ ?_ ?_) ?_ ?_
   any_goals (first | omega | (simp [qK]; done))
  ·simp only [decide_eq_false_iff_not] at hc
   simp only [go_sem,seval]
   repeat refine K ?_
   refine fz ?_; simp [yQ,wJ,wK,wR,-wD9]
end Go.Sep
