/- Contracts of functions. -/
import Derived.Test.YtebbppogicgpkaaGreatJxx36
open List renaming drop_one → qYj, take_length → qYk, take_of_length_le → qX3
namespace Go.Sep
set_option maxHeartbeats 16000000
open Go.Proofs
set_option linter.unusedSimpArgs false
set_option linter.unusedVariables false
set_option maxRecDepth 100000
open Nat renaming reduceAdd → qA, reduceMul → qB, reduceEqDiff → qC, reduceBEq → qD
open Int renaming reduceToNat → qE, reduceEq → qF, reduceLT → qG, reduceLE → qH
open List renaming getD_eq_getElem?_getD → gD
def m443:MFn:=⟨63,[.t 4],kr [xb 2 0,xF 4] (kr [xm 16 2 2,xv 17 1,xc2 18 407 (.t 16) (.t 17),xv 15 18,xX 19 15 0,xX 20 15 1,xX 21 15 2,xo 6 (.alloc [.nil,.nil,.nil,.nil]),xv 5 19,xS 4 6 20,xv 7 21] (.seq (kr [xv 22 7,xN 23 22] (kF 23 [xF 4])) (kr [xo 24 (.mkSl [xz,xz] 0 []),xv 8 24] (.seq (kr [xv 25 1,xe 26 25,xI 27 0] (.blk 0 (.loop (kr [bT 28 .lss 27 26] (.seq (kX 28 0) (.seq (.blk 1 (kr [xD 29 2 25 27,xm 30 2 29,xo 10 (.alloc [xz,xz]),xS 2 10 30] (xr [xv 31 8,xa 32 0 10,xl 33 32,xo 34 (.build [xz,xz] [(0,1,.t 33)]),xo 35 (.mkSl [xz,xz] 1 [(0,.t 34)]),xA 36 2 16 31 35,xv 8 36]))) (xr [bI 37 .add 27 1,xv 27 37]))))))) (kr [xm 39 2 2,xv 40 8,xc2 41 407 (.t 39) (.t 40),xv 38 41,xX 42 38 0,xX 43 38 1,xX 44 38 2,xo 12 (.alloc [.nil,.nil,.nil,.nil]),xv 11 42,xS 4 12 43,xv 13 44] (kr [xo 14 (.mv (.c (.fn 464 [])))] (kR [xv 45 5,xv 46 11,xc2 47 34 (.t 45) (.t 46),xv 48 47,ya 49 3 6 48,yl 50 1 49 48,ya 51 3 12 48,yl 52 1 51 48,xg 53 (.call 419 [false,false] [.t 50,.t 52]) 48 true,xP 54 48 53,xv 55 54,ya 56 1 6 55,yl 57 1 56 55,ya 58 1 12 55,yl 59 1 58 55,yv 60 14 55,xg 61 (.call 465 [false,false,false] [.t 57,.t 59,.t 60]) 55 true,xP 62 55 61,xv 4 62])))))))⟩
def m453:MFn:=⟨54,[.t 4],kr [xb 2 0,xF 4] (kr [xm 14 2 2,xv 15 1,xc2 16 406 (.t 14) (.t 15),xv 13 16,xX 17 13 0,xX 18 13 1,xX 19 13 2,xo 6 (.alloc [.nil,.nil,.nil,.nil]),xv 5 17,xS 4 6 18,xv 7 19] (kr [xo 20 (.mkSl [xz,xz] 0 []),xv 8 20] (.seq (kr [xI 9 0] (.blk 0 (.loop (.seq (kr [xv 21 9,xv 22 1,xe 23 22,bT 24 .lss 21 23] (kX 24 0)) (.seq (.blk 1 (xr [xv 27 8,xv 28 1,xv 29 9,xD 30 2 28 29,xa 31 0 30,xl 32 31,xo 33 (.build [xz,xz] [(0,1,.t 32)]),xo 34 (.mkSl [xz,xz] 1 [(0,.t 33)]),xA 35 2 16 27 34,xv 8 35])) (xr [xv 25 9,bI 26 .add 25 1,xv 9 26])))))) (kr [xm 37 2 2,xv 38 8,xc2 39 406 (.t 37) (.t 38),xv 36 39,xX 40 36 0,xX 41 36 1,xX 42 36 2,xo 11 (.alloc [.nil,.nil,.nil,.nil]),xv 10 40,xS 4 11 41,xv 12 42] (kR [xv 43 7,xv 44 43,yv 45 5 44,yv 46 10 44,xg 47 (.call 433 [false,false] [.t 45,.t 46]) 44 true,xP 48 44 47,xv 49 48,xg 50 (.load 4 true (.t 6)) 49 true,xg 51 (.load 4 true (.t 11)) 49 true,xg 52 (.call 469 [false,false] [.t 50,.t 51]) 49 true,xP 53 49 52,xv 4 53])))))⟩
def m460:MFn:=⟨23,[.t 4],kr [xb 2 0,xF 4] (kR [xm 5 2 2,xv 6 1,xc2 7 410 (.t 5) (.t 6),xv 8 7,xg 9 (.load 2 true (.t 2)) 8 true,yv 10 1 8,xg 11 (.call 413 [false,false] [.t 9,.t 10]) 8 true,xP 12 8 11,xv 13 12,xg 14 (.load 2 true (.t 2)) 13 true,yv 15 1 13,xg 16 (.call 443 [false,false] [.t 14,.t 15]) 13 true,xP 17 13 16,xv 18 17,xg 19 (.load 2 true (.t 2)) 18 true,yv 20 1 18,xg 21 (.call 398 [false,false] [.t 19,.t 20]) 18 true,xP 22 18 21,xv 4 22])⟩
def m462:MFn:=⟨23,[.t 4],kr [xb 2 0,xF 4] (kR [xm 5 2 2,xv 6 1,xc2 7 409 (.t 5) (.t 6),xv 8 7,xg 9 (.load 2 true (.t 2)) 8 true,yv 10 1 8,xg 11 (.call 412 [false,false] [.t 9,.t 10]) 8 true,xP 12 8 11,xv 13 12,xg 14 (.load 2 true (.t 2)) 13 true,yv 15 1 13,xg 16 (.call 453 [false,false] [.t 14,.t 15]) 13 true,xP 17 13 16,xv 18 17,xg 19 (.load 2 true (.t 2)) 18 true,yv 20 1 18,xg 21 (.call 397 [false,false] [.t 19,.t 20]) 18 true,xP 22 18 21,xv 4 22])⟩
def m464:MFn:=⟨17,[.t 4],kr [xb 2 0,xb 3 1,xF 4] (kR [xa 5 0 2,xl 6 5,xa 7 0 3,xl 8 7,bT 9 .eql 6 8,xv 10 9,ya 11 1 2 10,yl 12 1 11 10,ya 13 1 3 10,yl 14 1 13 10,xg 15 (.call 34 [false,false] [.t 12,.t 14]) 10 true,xP 16 10 15,xv 4 16])⟩
def m465:MFn:=⟨32,[.t 6],kr [xF 6] (.seq (kr [xv 10 0,xe 11 10,xv 12 1,xe 13 12,bT 14 .neq 11 13] (kF 14 [xF 6])) (.seq (kr [xv 15 0,xe 16 15,xI 17 0] (.blk 0 (.loop (kr [bT 18 .lss 17 16] (.seq (kX 18 0) (.seq (.blk 1 (kr [xv 19 17,xD 20 4 15 17,xm 21 4 20,xo 8 (.alloc [.int .i64 0,.nil,.nil,.int .i64 0]),xv 7 19,xS 4 8 21] (kr [xv 22 1,xv 23 7,xD 24 4 22 23,xm 25 4 24,xo 9 (.alloc [.int .i64 0,.nil,.nil,.int .i64 0]),xS 4 9 25] (kr [xv 26 2,xm 27 4 8,xm 28 4 9,xo 29 (.calv (.t 26) [.t 27,.t 28]),xN 30 29] (kF 30 [xF 6]))))) (xr [bI 31 .add 17 1,xv 17 31]))))))) (kR [xT 6])))⟩
def m469:MFn:=⟨78,[.t 4],kr [xb 2 0,xb 3 1,xF 4] (.seq (kr [xI 5 0] (.blk 0 (.loop (.seq (kr [xv 6 5,xa 7 1 2,xl 8 7,xe 9 8,bT 10 .lss 6 9,xv 11 10,yv 12 5 11,ya 13 1 3 11,yl 14 1 13 11,ye 15 14 11,xg 16 (.bin .lss (.t 12) (.t 15)) 11 true,xP 17 11 16] (kX 17 0)) (.seq (.blk 1 (.seq (.dreg (.take 0 (xa 20 1 2) (.take 1 (xl 21 20) (.take 2 (xv 22 5) (.take 3 (xD 23 4 21 22) (.take 4 (xa 24 0 23) (.take 5 (xl 25 24) (.take 6 (xa 26 1 3) (.take 7 (xl 27 26) (.only 8 [] (xv 28 5) (.only 9 [7,6] (xD 29 4 27 28) (.only 10 [9,7,6] (xa 30 0 29) (.only 11 [10,9,7,6] (xl 31 30) (.only 12 [5,11,4,10,3,9,1,2,7,0,6] (bT 32 .neq 25 31) (.only 13 [12,5,11,4,10,3,9,1,2,7,0,6] (xv 33 32) (.take 14 (za 34 1 2 33) (.take 15 (zl 35 1 34 33) (.take 16 (zv 36 5 33) (.take 17 (xg 37 (.iad 4 (.t 35) (.t 36)) 33 false) (.take 18 (za 38 3 37 33) (.take 19 (zl 39 1 38 33) (.take 20 (za 40 1 3 33) (.take 21 (zl 41 1 40 33) (.only 22 [13,12,5,11,4,10,3,9,1,2,7,0,6] (zv 42 5 33) (.only 23 [13,21,12,20,5,11,4,10,3,9,1,2,7,0,6] (xg 43 (.iad 4 (.t 41) (.t 42)) 33 false) (.only 24 [13,23,12,21,5,11,20,4,10,3,9,1,2,7,0,6] (za 44 3 43 33) (.only 25 [13,24,12,23,5,11,21,4,10,20,3,9,1,2,7,0,6] (zl 45 1 44 33) (.only 26 [13,19,25,12,18,24,5,11,17,23,4,10,15,16,21,3,9,14,20,1,2,7,0,6] (xg 46 (.bin .neq (.t 39) (.t 45)) 33 false) (.only 27 [13,26,12,19,25,5,11,18,24,4,10,17,23,3,9,15,16,21,1,2,7,14,20,0,6] (xQ 47 33 46) (.only 28 [13,27,12,26,5,11,19,25,4,10,18,24,3,9,17,23,1,2,7,15,16,21,0,6,14,20] (xv 48 47) (.take 29 (za 49 1 2 48) (.take 30 (zl 50 1 49 48) (.take 31 (zv 51 5 48) (.take 32 (xg 52 (.iad 4 (.t 50) (.t 51)) 48 false) (.take 33 (za 53 1 52 48) (.take 34 (zl 54 1 53 48) (.take 35 (za 55 1 3 48) (.take 36 (zl 56 1 55 48) (.only 37 [28,13,27,12,26,5,11,19,25,4,10,18,24,3,9,17,23,1,2,7,15,16,21,0,6,14,20] (zv 57 5 48) (.only 38 [28,36,13,27,35,12,26,5,11,19,25,4,10,18,24,3,9,17,23,1,2,7,15,16,21,0,6,14,20] (xg 58 (.iad 4 (.t 56) (.t 57)) 48 false) (.only 39 [28,38,13,27,36,12,26,35,5,11,19,25,4,10,18,24,3,9,17,23,1,2,7,15,16,21,0,6,14,20] (za 59 1 58 48) (.only 40 [28,39,13,27,38,12,26,36,5,11,19,25,35,4,10,18,24,3,9,17,23,1,2,7,15,16,21,0,6,14,20] (zl 60 1 59 48) (.only 41 [28,34,40,13,27,33,39,12,26,32,38,5,11,19,25,30,31,36,4,10,18,24,29,35,3,9,17,23,1,2,7,15,16,21,0,6,14,20] (xg 61 (.call 433 [false,false] [.t 54,.t 60]) 48 false) (.only 42 [28,41,13,27,34,40,12,26,33,39,5,11,19,25,32,38,4,10,18,24,30,31,36,3,9,17,23,29,35,1,2,7,15,16,21,0,6,14,20] (zN 62 61 48) (.only 43 [28,42,13,27,41,12,26,34,40,5,11,19,25,33,39,4,10,18,24,32,38,3,9,17,23,30,31,36,1,2,7,15,16,21,29,35,0,6,14,20] (xQ 63 48 62) (.done)))))))))))))))))))))))))))))))))))))))))))))) (kF 63 [xF 4]))) (xr [xv 18 5,bI 19 .add 18 1,xv 5 19])))))) (kR [xa 64 1 2,xl 65 64,xe 66 65,xa 67 1 3,xl 68 67,xe 69 68,bT 70 .eql 66 69,xv 71 70,ya 72 3 2 71,yl 73 1 72 71,ya 74 3 3 71,yl 75 1 74 71,xg 76 (.call 417 [false,false] [.t 73,.t 75]) 71 true,xP 77 71 76,xv 4 77]))⟩
def lK (p:wU) (l:List uF):Bool:=(wT p l).2.2
def hY (l:List uF):List uF:=l.map fun x=>⟨x.who,0⟩
theorem pC (l:List uF):(hY l).length=l.length:=by simp [hY]
theorem qM3 (l:List uF) :∀x∈hY l,tW x:=by
 intro x hx
 unfold hY at hx
 obtain ⟨y,_,rfl⟩:=List.mem_map.1 hx
 unfold tW
 simp only
 omega
theorem qG0 (p:wU) (l:List uF):wT p (hY l)=wT p l:=qKj (by simp [hY])
theorem qFz (l:List uF) (i:Nat) (h:i<l.length):dR (hY (l.take i))++[[.int .i64 (l.getD i default).who,.int .i64 0]]=dR (hY (l.take (i+1))):=by
 rw [bL l default i h]
 simp [hY,dR,fG]
theorem qFy (l:List uF) (i:Nat) (h:i≤l.length):(hY (l.take i)).length=i:=by
 rw [pC,List.length_take]
 omega
theorem qMz (a b:bY) (h:a.regs.length<2^40):qU Tryz.prog num 464 [.agg (mX .bw a),.agg (mX .bw b)] [] (.bool (decide (a.at_=b.at_)&&decide (a.regs=b.regs))):=by
 refine EN m464 Tryz.func87 ?_
 unfold m464
 simp only [go_sem,seval]
 by_cases h0:a.at_=b.at_
 ·try simp only [go_sem,seval,h0]
  refine CA [] (fV a.regs b.regs (by omega)) ?_
  try simp only [go_sem,seval]
  refine fz ?_; simp [qX,qQ,qR,qL,-qYj]
  all_goals simp [h0]
 ·try simp only [go_sem,seval,h0]
  refine fz ?_; simp [qX,qQ,qR,qL,-qYj]
  all_goals simp [h0]
theorem qF7 (l:List bY) (hl:l.length<2^40) (hr :∀K∈l,K.regs.length<2^40):qU Tryz.prog num 465 [.sl .bw 4 (cores .bw l),.sl .bw 4 (cores .bw l),.fn 464 []] [] (.bool true):=by
 refine EN m465 Tryz.func89 ?_
 unfold m465
 simp only [go_sem,seval]
 refine wB (ι:=Nat) (fun i=>.mk [(1,.sl .bw 4 (cores .bw l)),(2,.fn 464 []),(15,.sl .bw 4 (cores .bw l)),(16,.int .i64 l.length),(17,.int .i64 i)] [] 10) (fun i=>i≤l.length) (fun i=>l.length-i) 0 (by simp) ?_ ?_
 ·refine Sub.shape [] id (by omega) ?_ ?_ ?_ ?_<;>simp [qN]
 ·intro i hi
  simp only [go_sem,seval]
  refine qM (fun hc=>?_) (fun hc=>?_)
  ·simp only [decide_eq_true_eq] at hc
   have hi':i<l.length:=by omega
   have hg:=jZ .bw l i hi'
   have hK:=hr _ (wZ l i default hi')
   have hf:=qMz (l.getD i default) (l.getD i default) hK
   simp only [go_sem,seval,hg,qVr]
   repeat refine K ?_
   refine CAV [] (hf) ?_
   try simp only [go_sem,seval]
   try simp only [go_sem,seval,qW (i:=i) (by omega)]
   refine qV (i+1) (Sub.shape [] id (by omega) ?_ ?_ ?_ ?_) ?_ ?_
   any_goals (first | omega | (simp [qN]; done))
  ·simp only [decide_eq_false_iff_not] at hc
   simp only [go_sem,seval]
   refine fz ?_; simp [qX,qQ,qR,qL,-qYj]
theorem qDu (p:wU) (l:List uF) (hp:vY p) (hl:l.length<2^40) (hx :∀x∈l,tW x):qU Tryz.prog num 443 [.agg (yT .bw p),.sl .bw 2 (dR l)] [] (.bool (lK p l)):=by
 refine EN m443 Tryz.func30 ?_
 unfold m443
 have hw:=eQ p l hp hl hx
 have hw2:=eQ p (hY l) hp (by rw [pC]; exact hl) (qM3 l)
 rw [qG0] at hw2
 have hz:=(fE p l).1
 have hm:=eH p l
 unfold lK
 generalize wT p l=w at *
 obtain ⟨o,m,b⟩:=w
 simp only at hz hm hw hw2⊢
 simp only [go_sem,seval]
 refine CA [] (hw) ?_
 try simp only [go_sem,seval]
 cases b
 ·try simp only [go_sem,seval]
  refine fz ?_; simp [qX,qQ,qR,qL,-qYj]
 try simp only [go_sem,seval]
 refine wB (ι:=Nat) (fun i=>.mk [(2,.ptr 10 0 0),(5,.ns 11 0 o.length),(6,.ptr 16 0 0),(8,.ns 17 0 i),(25,.sl .bw 2 (dR l)),(26,.int .i64 l.length),(27,.int .i64 i)] [(10,2,[yT .bw p]),(11,1,wQ o),(16,4,[qY .own m]),(17,2,dR (hY (l.take i)))] 18) (fun i=>i≤l.length) (fun i=>l.length-i) 0 (by simp) ?_ ?_
 ·refine Sub.trans (Sub.fold1 16 0 12 rfl (by simp [-gD]<;>omega) rfl (by decide) (by decide) rfl) ?_
  simp only [fS,fS2,qA,qC]
  refine Sub.trans (Sub.fold1 16 1 13 rfl (by simp [-gD]<;>omega) rfl (by decide) (by decide) rfl) ?_
  simp only [fS,fS2,qA,qC]
  refine Sub.trans (Sub.fold1 16 2 14 rfl (by simp [-gD]<;>omega) rfl (by decide) (by decide) rfl) ?_
  simp only [fS,fS2,qA,qC]
  refine Sub.trans (Sub.fold1 16 3 15 rfl (by simp [-gD]<;>omega) rfl (by decide) (by decide) rfl) ?_
  simp only [fS,fS2,qA,qC]
  refine Sub.shape [] id (by omega) ?_ ?_ ?_ ?_<;>simp [qN]
  all_goals (first | exact .inl rfl | skip)
 ·intro i hi
  have hst:=qFy l i hi
  simp only [go_sem,seval]
  refine qM (fun hc=>?_) (fun hc=>?_)
  ·simp only [decide_eq_true_eq] at hc
   have hi':i<l.length:=by omega
   have hsn:=qFz l i hi'
   simp only [go_sem,seval,fH l i hi',hst,hsn,qW (i:=i) (by omega)]
   repeat refine K ?_
   refine qV (i+1) ?_ hi' (by omega)
   refine Sub.shape [] (fun n=>if n=17 then 20 else n) (by omega) ?_ ?_ ?_ ?_<;>simp [qN]
  ·simp only [decide_eq_false_iff_not] at hc
   have he:i=l.length:=by omega
   subst he
   rw [qYk]
   rw [qYk] at hst
   have htk:List.take l.length (hY l)=hY l:=qX3 (by omega)
   simp only [go_sem,seval,hst,htk]
   refine CA [] (hw2) ?_
   try simp only [go_sem,seval]
   refine CA [] (fV o o (by omega)) ?_
   try simp only [go_sem,seval]
   refine CA [] (nP m.tr m.tr (by have:=hm.tr; omega)) ?_
   try simp only [go_sem,seval]
   refine CA [] (qF7 m.cores (by have:=hm.cores; omega) (fun K hK=>by have:=hm.regs K hK; omega)) ?_
   try simp only [go_sem,seval]
   refine fz ?_; simp [qX,qQ,qR,qL,-qYj]
theorem qN1 (m:wA) (hm:kT m):qU Tryz.prog num 469 [.agg (qY .bw m),.agg (qY .bw m)] [] (.bool true):=by
 refine EN m469 Tryz.func111 ?_
 unfold m469
 simp only [go_sem,seval]
 refine wB (ι:=Nat) (fun i=>.mk [(2,.ptr 10 0 0),(3,.ptr 11 0 0),(5,.int .i64 i)] [(10,4,[qY .bw m]),(11,4,[qY .bw m])] 12) (fun i=>i≤m.cores.length) (fun i=>m.cores.length-i) 0 (by simp) ?_ ?_
 ·refine Sub.shape [] id (by omega) ?_ ?_ ?_ ?_<;>simp [qN]
 ·intro i hi
  have hl:=hm.cores
  by_cases hc:i<m.cores.length
  ·have d1:decide ((i:Int)<(m.cores.length:Int))=true:=by simp; omega
   have hg:=jZ .bw m.cores i hc
   have hK:=hm.regs _ (wZ m.cores i default hc)
   simp only [go_sem,seval,d1,hg]
   repeat refine K ?_
   refine DA [] (qAt (m.cores.getD i default).regs (m.cores.getD i default).regs (by omega)) ?_
   try simp only [go_sem,seval]
   try simp only [go_sem,seval,qW (i:=i) (by omega)]
   refine qV (i+1) (Sub.shape [] id (by omega) ?_ ?_ ?_ ?_) ?_ ?_
   any_goals (first | omega | (simp [qN]; done))
  ·have d1:decide ((i:Int)<(m.cores.length:Int))=false:=by simp; omega
   simp only [go_sem,seval,d1]
   refine CA [] (sD m.tr m.tr (by have:=hm.tr; omega)) ?_
   try simp only [go_sem,seval]
   refine fz ?_; simp [qX,qQ,qR,qL,-qYj]
theorem qCz (p:wU) (l:List uF) (hp:vY p) (hl:l.length<2^40) (hx :∀x∈l,tW x):qU Tryz.prog num 453 [.agg (yT .bw p),.sl .bw 2 (dR l)] [] (.bool (lK p l)):=by
 refine EN m453 Tryz.func43 ?_
 unfold m453
 have hw:=eK p l hp hl hx
 have hw2:=eK p (hY l) hp (by rw [pC]; exact hl) (qM3 l)
 rw [qG0] at hw2
 have hz:=(fE p l).1
 have hm:=eH p l
 unfold lK
 generalize wT p l=w at *
 obtain ⟨o,m,b⟩:=w
 simp only at hz hm hw hw2⊢
 simp only [go_sem,seval]
 refine CA [] (hw) ?_
 try simp only [go_sem,seval]
 refine wB (ι:=Nat) (fun i=>.mk [(1,.sl .bw 2 (dR l)),(2,.ptr 10 0 0),(5,.ns 11 0 o.length),(6,.ptr 16 0 0),(7,.bool b),(8,.ns 17 0 i),(9,.int .i64 i)] [(10,2,[yT .bw p]),(11,1,wQ o),(16,4,[qY .own m]),(17,2,dR (hY (l.take i)))] 18) (fun i=>i≤l.length) (fun i=>l.length-i) 0 (by simp) ?_ ?_
 ·refine Sub.trans (Sub.fold1 16 0 12 rfl (by simp [-gD]<;>omega) rfl (by decide) (by decide) rfl) ?_
  simp only [fS,fS2,qA,qC]
  refine Sub.trans (Sub.fold1 16 1 13 rfl (by simp [-gD]<;>omega) rfl (by decide) (by decide) rfl) ?_
  simp only [fS,fS2,qA,qC]
  refine Sub.trans (Sub.fold1 16 2 14 rfl (by simp [-gD]<;>omega) rfl (by decide) (by decide) rfl) ?_
  simp only [fS,fS2,qA,qC]
  refine Sub.trans (Sub.fold1 16 3 15 rfl (by simp [-gD]<;>omega) rfl (by decide) (by decide) rfl) ?_
  simp only [fS,fS2,qA,qC]
  refine Sub.shape [] id (by omega) ?_ ?_ ?_ ?_<;>simp [qN]
  all_goals (first | exact .inl rfl | skip)
 ·intro i hi
  have hst:=qFy l i hi
  simp only [go_sem,seval]
  refine qM (fun hc=>?_) (fun hc=>?_)
  ·simp only [decide_eq_true_eq] at hc
   have hi':i<l.length:=by omega
   have hsn:=qFz l i hi'
   simp only [go_sem,seval,fH l i hi',hst,hsn,qW (i:=i) (by omega)]
   repeat refine K ?_
   refine qV (i+1) ?_ hi' (by omega)
   refine Sub.shape [] (fun n=>if n=17 then 19 else n) (by omega) ?_ ?_ ?_ ?_<;>simp [qN]
  ·simp only [decide_eq_false_iff_not] at hc
   have he:i=l.length:=by omega
   subst he
   rw [qYk]
   rw [qYk] at hst
   have htk:List.take l.length (hY l)=hY l:=qX3 (by omega)
   simp only [go_sem,seval,hst,htk]
   refine CA [] (hw2) ?_
   try simp only [go_sem,seval]
   cases b
   ·try simp only [go_sem,seval]
    refine fz ?_; simp [qX,qQ,qR,qL,-qYj]
   try simp only [go_sem,seval]
   refine CA [] (qAt o o (by omega)) ?_
   try simp only [go_sem,seval]
   refine CA [] (qN1 m hm) ?_
   try simp only [go_sem,seval]
   refine fz ?_; simp [qX,qQ,qR,qL,-qYj]
def sE (p:wU) (l:List uF):Bool:=(wT p l).2.2
theorem qF4 (p:wU) (l:List uF) (hp:vY p) (hl:l.length<2^40) (hx :∀x∈l,tW x):qU Tryz.prog num 460 [.agg (yT .bw p),.sl .bw 2 (dR l)] [] (.bool (sE p l)):=by
 have h1:=qC8 p l hp hl hx
 have h2:=qDt p l hp hl hx
 have h3:=qDu p l hp hl hx
 have h4:=qC9 p l hp hl hx
 rw [qA6] at h1
 rw [qC3] at h2
 rw [qA7] at h4
 unfold lK at h3
 refine EN m460 Tryz.func61 ?_
 unfold m460 sE
 generalize (wT p l).2.2=b at *
 simp only [go_sem,seval]
 refine CA [] (h1) ?_
 try simp only [go_sem,seval]
 cases b
 ·try simp only [go_sem,seval]
  refine fz ?_; simp [qX,qQ,qR,qL,-qYj]
 try simp only [go_sem,seval]
 refine CA [] (h2) ?_
 try simp only [go_sem,seval]
 refine CA [] (h3) ?_
 try simp only [go_sem,seval]
 refine CA [] (h4) ?_
 try simp only [go_sem,seval]
 refine fz ?_; simp [qX,qQ,qR,qL,-qYj]
theorem qEy (p:wU) (l:List uF) (hp:vY p) (hl:l.length<2^40) (hx :∀x∈l,tW x):qU Tryz.prog num 462 [.agg (yT .bw p),.sl .bw 2 (dR l)] [] (.bool (sE p l)):=by
 have h1:=qBj p l hp hl hx
 have h2:=qCy p l hp hl hx
 have h3:=qCz p l hp hl hx
 have h4:=qBk p l hp hl hx
 rw [qA6] at h1
 rw [qC3] at h2
 rw [qA7] at h4
 unfold lK at h3
 refine EN m462 Tryz.func62 ?_
 unfold m462 sE
 generalize (wT p l).2.2=b at *
 simp only [go_sem,seval]
 refine CA [] (h1) ?_
 try simp only [go_sem,seval]
 cases b
 ·try simp only [go_sem,seval]
  refine fz ?_; simp [qX,qQ,qR,qL,-qYj]
 try simp only [go_sem,seval]
 refine CA [] (h2) ?_
 try simp only [go_sem,seval]
 refine CA [] (h3) ?_
 try simp only [go_sem,seval]
 refine CA [] (h4) ?_
 try simp only [go_sem,seval]
 refine fz ?_; simp [qX,qQ,qR,qL,-qYj]
end Go.Sep
