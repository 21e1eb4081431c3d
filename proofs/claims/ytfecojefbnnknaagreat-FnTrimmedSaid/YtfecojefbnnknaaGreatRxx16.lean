/- Contracts of functions. -/
import Derived.Test.YtfecojefbnnknaaGreatRxx15
open List renaming drop_one → wD9, take_of_length_le → wBy
namespace Go.Sep
set_option maxHeartbeats 16000000
open Go.Proofs
set_option linter.unusedSimpArgs false
set_option linter.unusedVariables false
set_option maxRecDepth 100000
open Nat renaming reduceAdd → qA, reduceMul → qB, reduceEqDiff → qC, reduceBEq → qD
open Int renaming reduceToNat → qE, reduceEq → qF, reduceLT → qG, reduceLE → qH
open List renaming getD_eq_getElem?_getD → gD
def m217:MFn:=⟨22,[.t 2],kr [xb 1 0,xo 2 (.mv (.c (.nil)))] (.seq (kr [xa 3 0 1,xl 4 3] (.blk 0 (.seq (kr [bI 6 .eql 4 1,xv 5 6] (.cond 5 (.skip) (kr [bI 7 .eql 4 2,xv 5 7] (.cond 5 (.skip) (kr [bI 8 .eql 4 3,xv 5 8] (.cond 5 (.skip) (kr [bI 9 .eql 4 4,xv 5 9] (.cond 5 (.skip) (xr [bI 10 .eql 4 7,xv 5 10]))))))))) (.cond 5 (kR [xa 11 1 1,xl 12 11,xo 13 (.mkSl [xz] 1 [(0,.t 12)]),xv 2 13]) (.seq (kr [bI 15 .eql 4 6,xv 14 15] (.cond 14 (.skip) (xr [bI 16 .eql 4 8,xv 14 16]))) (kF 14 [xa 17 1 1,xl 18 17,xa 19 3 1,xl 20 19,xo 21 (.mkSl [xz] 2 [(0,.t 18),(1,.t 20)]),xv 2 21])))))) (kR [xo 2 (.mv (.c (.nil)))]))⟩
def m328:MFn:=⟨13,[.t 2],kr [xF 2] (kR [xv 3 0,bI 4 .eql 3 2,xv 5 4,zv 6 0 5,zI 7 .eql 6 3 5,xQ 8 5 7,xv 9 8,zv 10 0 9,zI 11 .eql 10 4 9,xQ 12 9 11,xv 2 12])⟩
def m344:MFn:=⟨23,[.t 2],kr [xb 1 0,xo 2 (.mv (.c (.nil)))] (.seq (kr [xa 3 0 1,xl 4 3] (.blk 0 (.seq (kr [bI 6 .eql 4 1,xv 5 6] (.cond 5 (.skip) (kr [bI 7 .eql 4 2,xv 5 7] (.cond 5 (.skip) (kr [bI 8 .eql 4 3,xv 5 8] (.cond 5 (.skip) (kr [bI 9 .eql 4 4,xv 5 9] (.cond 5 (.skip) (xr [bI 10 .eql 4 7,xv 5 10]))))))))) (.cond 5 (kR [xa 11 1 1,xl 12 11,xo 13 (.mkSl [xz] 1 [(0,.t 12)]),xv 2 13]) (.seq (kr [bI 15 .eql 4 6,xv 14 15] (.cond 14 (.skip) (xr [bI 16 .eql 4 8,xv 14 16]))) (kF 14 [xa 17 1 1,xl 18 17,xa 19 3 1,xl 20 19,xo 21 (.mkSl [xz] 2 [(0,.t 18),(1,.t 20)]),xv 2 21])))))) (kR [xo 22 (.mkSl [xz] 0 []),xv 2 22]))⟩
theorem qO3 (x:Ins):qY Tryz.prog num 217 [.agg (gE x)] [] (.sl .own 1 (wE (uR x))):=by
 refine EN m217 Tryz.func96 ?_
 unfold m217
 by_cases h1:x.op=1
 ·simp only [go_sem,seval,h1]
  repeat refine K ?_
  refine ⟨_,Sub.refl _,qU ?_⟩; simp [-wD9]
  all_goals simp [uR,h1,wE]
 by_cases h2:x.op=2
 ·simp only [go_sem,seval,h1,h2]
  repeat refine K ?_
  refine ⟨_,Sub.refl _,qU ?_⟩; simp [-wD9]
  all_goals simp [uR,h2,wE]
 by_cases h3:x.op=3
 ·simp only [go_sem,seval,h1,h2,h3]
  repeat refine K ?_
  refine ⟨_,Sub.refl _,qU ?_⟩; simp [-wD9]
  all_goals simp [uR,h3,wE]
 by_cases h4:x.op=4
 ·simp only [go_sem,seval,h1,h2,h3,h4]
  repeat refine K ?_
  refine ⟨_,Sub.refl _,qU ?_⟩; simp [-wD9]
  all_goals simp [uR,h4,wE]
 by_cases h7:x.op=7
 ·simp only [go_sem,seval,h1,h2,h3,h4,h7]
  repeat refine K ?_
  refine ⟨_,Sub.refl _,qU ?_⟩; simp [-wD9]
  all_goals simp [uR,h7,wE]
 by_cases h6:x.op=6
 ·simp only [go_sem,seval,h1,h2,h3,h4,h7,h6]
  repeat refine K ?_
  refine ⟨_,Sub.refl _,qU ?_⟩; simp [-wD9]
  all_goals simp [uR,h6,wE]
 by_cases h8:x.op=8
 ·simp only [go_sem,seval,h1,h2,h3,h4,h7,h6,h8]
  repeat refine K ?_
  refine ⟨_,Sub.refl _,qU ?_⟩; simp [-wD9]
  all_goals simp [uR,h8,wE]
 simp only [go_sem,seval,h1,h2,h3,h4,h7,h6,h8]
 repeat refine K ?_
 refine ⟨_,Sub.refl _,qU ?_⟩; simp [-wD9]
 all_goals simp [uR,h1,h2,h3,h4,h7,h6,h8,wE]
theorem qMm (x:Ins):qY Tryz.prog num 344 [.agg (gE x)] [] (.sl .own 1 (wE (uR x))):=by
 refine EN m344 Tryz.func126 ?_
 unfold m344
 by_cases h1:x.op=1
 ·simp only [go_sem,seval,h1]
  repeat refine K ?_
  refine ⟨_,Sub.refl _,qU ?_⟩; simp [-wD9]
  all_goals simp [uR,h1,wE]
 by_cases h2:x.op=2
 ·simp only [go_sem,seval,h1,h2]
  repeat refine K ?_
  refine ⟨_,Sub.refl _,qU ?_⟩; simp [-wD9]
  all_goals simp [uR,h2,wE]
 by_cases h3:x.op=3
 ·simp only [go_sem,seval,h1,h2,h3]
  repeat refine K ?_
  refine ⟨_,Sub.refl _,qU ?_⟩; simp [-wD9]
  all_goals simp [uR,h3,wE]
 by_cases h4:x.op=4
 ·simp only [go_sem,seval,h1,h2,h3,h4]
  repeat refine K ?_
  refine ⟨_,Sub.refl _,qU ?_⟩; simp [-wD9]
  all_goals simp [uR,h4,wE]
 by_cases h7:x.op=7
 ·simp only [go_sem,seval,h1,h2,h3,h4,h7]
  repeat refine K ?_
  refine ⟨_,Sub.refl _,qU ?_⟩; simp [-wD9]
  all_goals simp [uR,h7,wE]
 by_cases h6:x.op=6
 ·simp only [go_sem,seval,h1,h2,h3,h4,h7,h6]
  repeat refine K ?_
  refine ⟨_,Sub.refl _,qU ?_⟩; simp [-wD9]
  all_goals simp [uR,h6,wE]
 by_cases h8:x.op=8
 ·simp only [go_sem,seval,h1,h2,h3,h4,h7,h6,h8]
  repeat refine K ?_
  refine ⟨_,Sub.refl _,qU ?_⟩; simp [-wD9]
  all_goals simp [uR,h8,wE]
 simp only [go_sem,seval,h1,h2,h3,h4,h7,h6,h8]
 repeat refine K ?_
 refine ⟨_,Sub.refl _,qU ?_⟩; simp [-wD9]
 all_goals simp [uR,h1,h2,h3,h4,h7,h6,h8,wE]
theorem qNo (op:Int):qY Tryz.prog num 328 [.int .i64 op] [] (.bool (nO op)):=by
 refine EN m328 Tryz.func59 ?_
 unfold m328
 by_cases h2:op=2
 ·simp only [go_sem,seval,h2]
  repeat refine K ?_
  refine fz ?_; simp [yQ,wJ,wK,wR,-wD9]
  all_goals simp [nO,h2]
 by_cases h3:op=3
 ·simp only [go_sem,seval,h2,h3]
  repeat refine K ?_
  refine fz ?_; simp [yQ,wJ,wK,wR,-wD9]
  all_goals simp [nO,h3]
 simp only [go_sem,seval,h2,h3]
 repeat refine K ?_
 refine fz ?_; simp [yQ,wJ,wK,wR,-wD9]
 all_goals simp [nO,h2,h3]
theorem qMr (x:Ins):(uR x).length≤2:=by
 unfold uR
 repeat' split
 all_goals simp
def m238:MFn:=⟨30,[.cell 2 2 true],kr [xb 1 0,xo 2 (.alloc [.nil,.nil])] (kr [xo 5 (.mkSl [xz] 0 []),xa 6 0 1,xl 7 6,xA 8 1 8 5 7,xo 9 (.build [.nil,.nil] [(0,1,.t 8)]),xo 3 (.alloc [.nil,.nil]),xS 2 3 9] (.seq (kr [xI 4 0] (.blk 0 (.loop (.seq (kr [xv 10 4,xa 11 1 1,xl 12 11,xe 13 12,bT 14 .lss 10 13] (kX 14 0)) (.seq (.blk 1 (.dreg (.take 0 (xa 17 1 3) (.take 1 (xl 18 17) (.take 3 (xa 20 1 1) (.take 4 (xl 21 20) (.take 5 (xv 22 4) (.take 6 (xD 23 1 21 22) (.take 7 (xl 24 23) (.only 2 [] (xo 19 (.mkSl [xz,xz,xz,xz,xz] 0 [])) (.only 8 [7,6,4,5,3] (xA 25 5 40 19 24) (.only 9 [8,7,6,4,5,3] (xo 26 (.mkSl [.nil] 1 [(0,.t 25)])) (.only 10 [1,8,0,7,6,4,5,3] (xA 27 1 24 18 26) (.only 11 [0,1,3,4,5,6,7] (xa 28 1 3) (.only 12 [0,1,3,4,5,6,7] (xS 1 28 27) (.done)))))))))))))))) (xr [xv 15 4,bI 16 .add 15 1,xv 4 16])))))) (kR [xm 29 2 3,xS 2 2 29])))⟩
def m247:MFn:=⟨26,[.cell 2 2 true],kr [xb 1 0,xo 2 (.alloc [.nil,.nil])] (kr [xa 6 0 1,xl 7 6,xc1 8 36 (.t 7),xo 9 (.build [.nil,.nil] [(0,1,.t 8)]),xo 3 (.alloc [.nil,.nil]),xS 2 3 9] (.seq (kr [xa 10 1 1,xl 11 10,xe 12 11,xI 13 0] (.blk 0 (.loop (kr [bT 14 .lss 13 12] (.seq (kX 14 0) (.seq (.blk 1 (kr [xD 15 1 11 13,xl 16 15,xv 5 16] (.dreg (.take 0 (xa 17 1 3) (.take 1 (xl 18 17) (.only 2 [] (xv 19 5) (.only 3 [] (xc1 20 248 (.t 19)) (.only 4 [] (xo 21 (.mkSl [.nil] 1 [(0,.t 20)])) (.only 5 [1,0] (xA 22 1 24 18 21) (.only 6 [0,1] (xa 23 1 3) (.only 7 [0,1] (xS 1 23 22) (.done)))))))))))) (xr [bI 24 .add 13 1,xv 13 24]))))))) (kR [xm 25 2 3,xS 2 2 25])))⟩
def m248:MFn:=⟨6,[.t 2],kr [xo 2 (.mv (.c (.nil)))] (kR [xo 3 (.mkSl [xz,xz,xz,xz,xz] 0 []),xv 4 0,xA 5 5 40 3 4,xv 2 5])⟩
def m326:MFn:=⟨57,[.t 4],kr [xo 4 (.mv (.c (.nil)))] (.seq (kr [xv 6 0,xc2 7 82 (.t 6) (xi 3),xN 8 7,xv 9 8,zv 10 1 9,zv 11 0 9,ze 12 11 9,zI 13 .sub 12 1 9,xg 14 (.call 64 [false,false,false] [.t 10,xi 0,.t 13]) 9 false,zN 15 14 9,xQ 16 9 15] (kF 16 [xo 17 (.mkSl [xz] 0 []),xv 4 17])) (kr [xv 18 0,xv 19 1,xD 20 5 18 19,xm 21 5 20,xo 5 (.alloc [xz,xz,xz,xz,xz]),xS 5 5 21] (.seq (kr [xa 22 0 5,xl 23 22] (.blk 0 (kr [bI 25 .eql 23 13,xv 24 25] (.cond 24 (kR [xo 26 (.mkSl [xz] 0 []),xv 4 26]) (kr [bI 28 .eql 23 11,xv 27 28] (.cond 27 (kR [xa 29 4 5,xl 30 29,xo 31 (.mkSl [xz] 1 [(0,.t 30)]),xv 4 31]) (kr [bI 33 .eql 23 12,xv 32 33] (.cond 32 (.seq (kr [xa 34 4 5,xl 35 34,xv 36 1,bI 37 .add 36 1,bT 38 .lss 35 37] (kF 38 [xa 39 4 5,xl 40 39,xv 41 1,bI 42 .add 41 1,xo 43 (.mkSl [xz] 2 [(0,.t 40),(1,.t 42)]),xv 4 43])) (kr [xa 44 4 5,xl 45 44,xv 46 1,bI 47 .add 46 1,bT 48 .gtr 45 47] (kF 48 [xv 49 1,bI 50 .add 49 1,xa 51 4 5,xl 52 51,xo 53 (.mkSl [xz] 2 [(0,.t 50),(1,.t 52)]),xv 4 53]))) (.skip))))))))) (kR [xv 54 1,bI 55 .add 54 1,xo 56 (.mkSl [xz] 1 [(0,.t 55)]),xv 4 56]))))⟩
theorem qD7 (l:List Ins) (hx:40*l.length≤2^47):qY Tryz.prog num 248 [.sl .bw 5 (yV l)] [] (.sl .own 5 (yV l)):=by
 refine EN m248 Tryz.func61 ?_
 unfold m248
 simp only [go_sem,seval]
 repeat refine K ?_
 refine ⟨_,Sub.refl _,qU ?_⟩; simp [-wD9]
theorem qJx (l:List (List Ins)) (i:Nat) (h:i<l.length):yT .own (l.take i)++[[AV.sl .own 5 (yV (l.getD i []))]]=yT .own (l.take (i+1)):=by
 rw [jX l [] i h]
 simp [yT]
theorem qOe (p:wQ) (hp:aW p):qY Tryz.prog num 247 [.agg (jY .bw p)] [] (.agg (jY .own p)):=by
 obtain ⟨h1,h2,h3⟩:=hp
 refine EN m247 Tryz.func90 ?_
 unfold m247
 simp only [go_sem,seval]
 repeat refine K ?_
 refine CA [] (cD p.caps (by omega)) ?_
 try simp only [go_sem,seval]
 repeat refine K ?_
 try simp only [go_sem,seval]
 repeat refine K ?_
 refine qZ (ι:=Nat) (fun i=>.mk [(2,.ptr 11 0 0),(3,.ptr 13 0 0),(11,.sl .bw 1 (yT .bw p.bods)),(12,.int .i64 p.bods.length),(13,.int .i64 i)] [(11,2,[[.nil,.nil]]),(13,2,[[.sl .own 1 (wE p.caps),.sl .own 1 (yT .own (p.bods.take i))]])] 14) (fun i=>i≤p.bods.length) (fun i=>p.bods.length-i) 0 (by simp) ?_ ?_
 ·refine Sub.trans (Sub.fold1 13 0 12 rfl (by simp [-gD]<;>omega) rfl (by decide) (by decide) rfl) ?_
  simp only [fS,fS3,qA,qC]
  refine Sub.shape [] id (by omega) ?_ ?_ ?_ ?_<;>simp [qK]
 ·rintro i hi
  simp only [go_sem,seval]
  refine qP (fun hc=>?_) (fun hc=>?_)
  ·simp only [decide_eq_true_eq] at hc
   have hl':i<p.bods.length:=by omega
   have hlt:(p.bods.take i).length=i:=by simp; omega
   have hr:=h3 _ (yB p.bods i [] hl')
   have hn:=qJx p.bods i hl'
   have hlt2:(p.bods.take (i+1)).length=i+1:=by simp; omega
   simp only [go_sem,seval,wB .bw p.bods i hl',hlt]
   repeat refine K ?_
   refine DA [] (qD7 (p.bods.getD i []) (by omega)) ?_
   try simp only [go_sem,seval]
   repeat refine K ?_
   try simp only [go_sem,seval,hlt,qN (i:=i) (by omega)]
   repeat refine K ?_
   refine qM (i+1) ?_ hl' (by omega)
   refine Sub.trans (Sub.foldLast 17 0 15 rfl (by simp [-gD]<;>omega) rfl (by decide) (by decide) rfl) ?_
   simp only [fS,fS3,qA,qC,hn]
   refine Sub.trans (Sub.fold1 13 1 17 rfl (by simp [-gD]<;>omega) rfl (by decide) (by decide) rfl) ?_
   simp only [fS,fS3,qA,qC,hlt2]
   refine Sub.shape [] id (by omega) ?_ ?_ ?_ ?_<;>simp [qK]
  ·simp only [decide_eq_false_iff_not] at hc
   have he:p.bods.take i=p.bods:=wBy (by omega)
   simp only [go_sem,seval,he]
   repeat refine K ?_
   refine ⟨_,Sub.refl _,qU ?_⟩; simp [-wD9]
theorem qQ6 (p:wQ) (hp:aW p):qY Tryz.prog num 238 [.agg (jY .bw p)] [] (.agg (jY .own p)):=by
 obtain ⟨h1,h2,h3⟩:=hp
 refine EN m238 Tryz.func62 ?_
 unfold m238
 simp only [go_sem,seval]
 repeat refine K ?_
 refine qZ (ι:=Nat) (fun i=>.mk [(1,.ptr 10 0 0),(2,.ptr 11 0 0),(3,.ptr 14 0 0),(4,.int .i64 i)] [(10,2,[jY .bw p]),(11,2,[[.nil,.nil]]),(14,2,[[.sl .own 1 (wE p.caps),.sl .own 1 (yT .own (p.bods.take i))]])] 15) (fun i=>i≤p.bods.length) (fun i=>p.bods.length-i) 0 (by simp) ?_ ?_
 ·refine Sub.trans (Sub.fold1 14 0 13 rfl (by simp [-gD]<;>omega) rfl (by decide) (by decide) rfl) ?_
  simp only [fS,fS3,qA,qC]
  refine Sub.shape [] id (by omega) ?_ ?_ ?_ ?_<;>simp [qK]
 ·rintro i hi
  simp only [go_sem,seval]
  repeat refine K ?_
  refine qP (fun hc=>?_) (fun hc=>?_)
  ·simp only [decide_eq_true_eq] at hc
   have hl':i<p.bods.length:=by omega
   have hlt:(p.bods.take i).length=i:=by simp; omega
   have hr:=h3 _ (yB p.bods i [] hl')
   have hn:=qJx p.bods i hl'
   have hlt2:(p.bods.take (i+1)).length=i+1:=by simp; omega
   simp only [go_sem,seval,wB .bw p.bods i hl',hlt,qN (i:=i) (by omega)]
   repeat refine K ?_
   refine qM (i+1) ?_ hl' (by omega)
   refine Sub.trans (Sub.foldLast 19 0 17 rfl (by simp [-gD]<;>omega) rfl (by decide) (by decide) rfl) ?_
   simp only [fS,fS3,qA,qC,hn]
   refine Sub.trans (Sub.fold1 14 1 19 rfl (by simp [-gD]<;>omega) rfl (by decide) (by decide) rfl) ?_
   simp only [fS,fS3,qA,qC,hlt2]
   refine Sub.shape [] id (by omega) ?_ ?_ ?_ ?_<;>simp [qK]
  ·simp only [decide_eq_false_iff_not] at hc
   have he:p.bods.take i=p.bods:=wBy (by omega)
   simp only [go_sem,seval,he]
   repeat refine K ?_
   refine ⟨_,Sub.refl _,qU ?_⟩; simp [-wD9]
theorem rT (l:List Ins) (a:Nat) (hb:wF l 3=true) (ha:a<l.length):qY Tryz.prog num 326 [.sl .bw 5 (yV l),.int .i64 a] [] (.sl .own 1 (wE (yO l a))):=by
 obtain ⟨hl1,hl2⟩:=zS hb
 have hg:=jQ l a ha
 have hw:qW (a:Int) 0 ((l.length:Int)-1)=true:=by rw [qL]; omega
 have hw1:IntKind.i64.wrap ((a:Int)+1)=(a:Int)+1:=yL (by omega) (by omega)
 have hw2:IntKind.i64.wrap ((l.length:Int)-1)=(l.length:Int)-1:=yL (by omega) (by omega)
 refine EN m326 Tryz.func103 ?_
 unfold m326
 simp only [go_sem,seval]
 repeat refine K ?_
 refine CA [] (kA l 3 (by omega) (by omega) (by omega)) ?_
 try simp only [go_sem,seval]
 repeat refine K ?_
 try simp only [go_sem,seval,hb,hw2]
 repeat refine K ?_
 refine CA [] (mG (a:Int) 0 ((l.length:Int)-1)) ?_
 try simp only [go_sem,seval]
 repeat refine K ?_
 try simp only [go_sem,seval,hw,hg]
 repeat refine K ?_
 unfold yO
 generalize l.getD a default=x at hg
 simp only
 by_cases h13:x.op=13
 ·try simp only [go_sem,seval,h13]
  repeat refine K ?_
  refine ⟨_,Sub.refl _,qU ?_⟩; simp [-wD9]
  all_goals (try simp [h13,wE])
 by_cases h11:x.op=11
 ·try simp only [go_sem,seval,h13,h11]
  repeat refine K ?_
  refine ⟨_,Sub.refl _,qU ?_⟩; simp [-wD9]
  all_goals (try simp [h13,h11,wE])
 by_cases h12:x.op=12
 ·by_cases h1:x.n<(a:Int)+1
  ·try simp only [go_sem,seval,h13,h11,h12,hw1,h1]
   repeat refine K ?_
   refine ⟨_,Sub.refl _,qU ?_⟩; simp [-wD9]
   all_goals (try simp [h13,h11,h12,h1,wE])
  ·by_cases h2:(a:Int)+1<x.n
   ·try simp only [go_sem,seval,h13,h11,h12,hw1,h1,h2]
    repeat refine K ?_
    refine ⟨_,Sub.refl _,qU ?_⟩; simp [-wD9]
    all_goals (try simp [h13,h11,h12,h1,h2,wE])
   ·try simp only [go_sem,seval,h13,h11,h12,hw1,h1,h2]
    repeat refine K ?_
    refine ⟨_,Sub.refl _,qU ?_⟩; simp [-wD9]
    all_goals (try simp [h13,h11,h12,h1,h2,wE])
 try simp only [go_sem,seval,h13,h11,h12,hw1]
 repeat refine K ?_
 refine ⟨_,Sub.refl _,qU ?_⟩; simp [-wD9]
 all_goals (try simp [h13,h11,h12,wE])
theorem qT7 {α:Type} (l:List α) (i:Nat) (d:α) (h:i<l.length):l.set i (l.getD i d)=l:=by
 rw [List.getD_eq_getElem?_getD,List.getElem?_eq_getElem h,Option.getD_some,List.set_getElem_self]
end Go.Sep
