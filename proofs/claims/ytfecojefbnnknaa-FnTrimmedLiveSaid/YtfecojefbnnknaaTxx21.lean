/- Contracts of functions. -/
import Derived.Test.YtfecojefbnnknaaTxx14
import Derived.Test.YtfecojefbnnknaaTxx15
namespace Go.Sep
set_option maxHeartbeats 16000000
open Go.Proofs
set_option linter.unusedSimpArgs false
set_option linter.unusedVariables false
set_option maxRecDepth 100000
open Nat renaming reduceAdd → qA, reduceMul → qB, reduceEqDiff → qC, reduceBEq → qD
open Int renaming reduceToNat → qE, reduceEq → qF, reduceLT → qG, reduceLE → qH
open List renaming getD_eq_getElem?_getD → gD
def m168:MFn:=⟨31,[.cell 2 2 true,.t 3],kr [xo 2 (.alloc [.nil,.nil]),xo 3 (.mv (.c (.nil)))] (kr [xv 8 0,xo 9 (.call 37 [true] [.t 8]),xv 4 9] (kr [xv 10 4,xo 11 (.call 55 [true] [.t 10]),xo 5 (.alloc [.nil,.nil]),xS 2 5 11] (kr [xo 12 (.mkSl [xz] 0 []),xv 6 12] (.seq (kr [xI 7 0] (.blk 0 (.loop (.seq (kr [xv 13 7,xv 14 4,xv 15 0,xc3 16 213 (.t 15) (xi 60) (xi 120),xo 17 (.call 39 [true,false] [.t 14,.t 16]),bT 18 .lss 13 17] (kX 18 0)) (.seq (.blk 1 (xr [xv 21 6,xv 22 4,xa 23 1 5,xl 24 23,xe 25 24,xo 26 (.call 39 [true,false] [.t 22,.t 25]),xo 27 (.mkSl [xz] 1 [(0,.t 26)]),xA 28 1 8 21 27,xv 6 28])) (xr [xv 19 7,bI 20 .add 19 1,xv 7 20])))))) (kR [xm 29 2 5,xv 30 6,xS 2 2 29,xv 3 30])))))⟩
def qXm (code:List Int) (c:Cur) (n:Nat):List Int×Cur:=dE code 0 (sO code.length 60 120) (fun d=>qR code d n) 120 0 c []
def kY (code:List Int):wT×List Int:=((dY code (qAi code)).1,(qXm code (dY code (qAi code)).2 (dY code (qAi code)).1.bods.length).1)
theorem qQs (code:List Int):jF (kY code).1=true∧(kY code).2.length≤120∧∀x∈(kY code).2,0≤x∧x<(kY code).1.bods.length:=by
 refine ⟨qFu code (qAi code),?_,?_⟩
 ·have h:=(eB (code:=code) (base:=0) (m:=sO code.length 60 120) (step:=fun d=>qR code d (dY code (qAi code)).1.bods.length) 120 0 (dY code (qAi code)).2 []).2
  simpa [kY,qXm] using h
 ·have hb:=(qGp code (qAi code)).2.2.1
  exact lN (Q:=fun x=>0≤x∧x<((dY code (qAi code)).1.bods.length:Int)) (fun d=>yZ code d _ (by omega)) 120 0 _ [] (by simp)
theorem qEn (code:List Int) (hb:code.length<2^62):wB Try.prog num 168 [.sl .fz 1 (bys code)] [] (.tup [.agg (gY .own (kY code).1),.sl .own 1 (wK (kY code).2)]):=by
 have hm:=qTt code.length (show (60:Int)≤120 by omega)
 refine EN m168 Try.func7 ?_
 unfold m168 kY
 simp only [go_sem,seval]
 repeat refine K ?_
 refine nV (qPx (n1:=12) [(10,11)] (qU0 code hb) ?_ ?_ ?_ ?_ ?_ ?_ ?_) ?_
 any_goals (first | omega | (simp [wL,wN]; done) | (simp [wL,wN, *]; done))
 try simp only [go_sem,seval]
 repeat refine K ?_
 refine CA [(0,11)] (qEd code (qAi code) hb) ?_
 try simp only [go_sem,seval]
 repeat refine K ?_
 generalize dY code (qAi code)=r
 obtain ⟨p,d⟩:=r
 simp only
 unfold qXm
 try simp only [go_sem,seval]
 repeat refine K ?_
 have clong:=qRg code 60 120 hb (by omega)
 generalize sO code.length 60 120=w at *
 refine wR (ι:=Nat×Cur×List Int) (fun s=>.mk [(0,.sl .fz 1 (bys code)),(2,.ptr 10 0 0),(4,.ptr 11 0 0),(5,.ptr 14 0 0),(6,.ns 15 0 s.1),(7,.int .i64 s.1)] [(10,2,[[.nil,.nil]]),(11,3,[iL code s.2.1]),(14,2,[gY .own p]),(15,1,wK s.2.2)] 16) (fun s=>s.1≤120∧s.2.2.length=s.1∧dE code 0 w (fun d=>qR code d p.bods.length) (120-s.1) s.1 s.2.1 s.2.2=dE code 0 w (fun d=>qR code d p.bods.length) 120 0 d []) (fun s=>120-s.1) (0,d,[]) ⟨by simp,rfl,rfl⟩ ?_ ?_
 ·refine Sub.trans (Sub.fold1 14 0 12 rfl (by simp [-gD]<;>omega) rfl (by decide) (by decide) rfl) ?_
  simp only [fS,fS3,qA,qC]
  refine Sub.trans (Sub.fold1 14 1 13 rfl (by simp [-gD]<;>omega) rfl (by decide) (by decide) rfl) ?_
  simp only [fS,fS3,qA,qC]
  refine Sub.shape [] id (by omega) ?_ ?_ ?_ ?_<;>simp [qU]
  exact .inl rfl
 ·rintro ⟨j,f,acc⟩ ⟨hj,hl,hd⟩
  simp only at hj hl hd⊢
  simp only [go_sem,seval]
  refine CA [] (clong) ?_
  try simp only [go_sem,seval]
  repeat refine K ?_
  try simp only [go_sem,seval]
  repeat refine K ?_
  refine CA [(0,11)] (yS code f w hb) ?_
  try simp only [go_sem,seval]
  repeat refine K ?_
  have hr:=yZ code f w (by omega)
  try simp only [go_sem,seval]
  repeat refine K ?_
  refine qZ (fun hc=>?_) (fun hc=>?_)
  ·simp only [decide_eq_true_eq] at hc
   have hg:=qHk (code:=code) (base:=0) (m:=w) (step:=fun d=>qR code d p.bods.length) (N:=120) (i:=j) (c:=f) (acc:=acc) (by omega) (by omega)
   rw [hg] at hd
   try simp only at hd
   simp only [go_sem,seval,wD (i:=j) (by omega),hl]
   repeat refine K ?_
   refine CA [(0,11)] (yS code (qR code f w).2 p.bods.length hb) ?_
   try simp only [go_sem,seval]
   repeat refine K ?_
   try simp only [go_sem,seval,wD (i:=j) (by omega),hl]
   repeat refine K ?_
   refine wC (j+1,(qR code (qR code f w).2 p.bods.length).2,acc++[(qR code (qR code f w).2 p.bods.length).1]) ?_ ⟨by simp only; omega,by simp only [List.length_append,hl]; rfl,hd⟩ (by simp only; omega)
   refine Sub.trans (Sub.fold1 14 1 16 rfl (by simp [-gD]<;>omega) rfl (by decide) (by decide) rfl) ?_
   simp only [fS,fS3,qA,qC]
   refine Sub.shape [] (fun n=>if n=15 then 18 else n) (by omega) ?_ ?_ ?_ ?_<;>simp [qU]
   exact .inl (oP _ _)
  ·simp only [decide_eq_false_iff_not] at hc
   rw [qBq (by omega)] at hd
   simp only [go_sem,seval]
   repeat refine K ?_
   rw [←hd]
   apply qCv (by simp)
   ·exact Sub.refl _
   ·simp [-List.drop_one,-gD,hl]<;>(first | rfl | exact ⟨rfl,rfl⟩ | exact ⟨rfl,rfl,rfl⟩ | skip)
end Go.Sep
