/- Contracts of functions. -/
import Derived.Test.YtebbppogicgpkaaGreatSxx19
import Derived.Test.YtebbppogicgpkaaGreatSxx9
namespace Go.Sep
set_option maxHeartbeats 16000000
open Go.Proofs
set_option linter.unusedSimpArgs false
set_option linter.unusedVariables false
set_option maxRecDepth 100000
open Nat renaming reduceAdd → qA, reduceMul → qB, reduceEqDiff → qC, reduceBEq → qD
open Int renaming reduceToNat → qE, reduceEq → qF, reduceLT → qG, reduceLE → qH
open List renaming getD_eq_getElem?_getD → gD
theorem mS {p:wM} {s:wH} (h:wX p s=true):qAt s:=by
 have hn:=tZ h
 rw [bG] at h
 obtain ⟨a,b,c,d,e,f⟩:=h
 simp only [vF,Bool.and_eq_true,decide_eq_true_eq,qN] at a
 refine ⟨by omega,by omega,by omega,fun t ht=>?_,fun c' hc'=>?_⟩
 ·obtain ⟨i,hi,rfl⟩:=List.getElem_of_mem ht
  have:=e i hi
  simp only [bX,Bool.and_eq_true,decide_eq_true_eq] at this
  have hg:s.ths.getD i default=s.ths[i]:=by simp [List.getD_eq_getElem?_getD,hi]
  rw [hg] at this
  omega
 ·obtain ⟨i,hi,rfl⟩:=List.getElem_of_mem hc'
  have:=qKs (f i hi).1
  have h2:=(f i hi).1
  simp only [uO,Bool.and_eq_true,qN] at h2
  have hg:s.chs.getD i default=s.chs[i]:=by simp [List.getD_eq_getElem?_getD,hi]
  rw [hg] at this h2
  omega
def m25:MFn:=⟨43,[.cell 6 3 true,.t 7],kr [xb 3 0,xb 4 1,xo 6 (.alloc [.nil,.nil,.nil]),xo 7 (.mv (.c (.nil)))] (kr [xm 13 3 4,xc1 14 49 (.t 13),xo 8 (.alloc [.nil,.nil,.nil]),xS 3 8 14] (kr [xo 15 (.mkSl [xz] 0 []),xv 9 15] (.seq (kr [xv 16 2,xe 17 16,bI 18 .gtr 17 4000,xv 19 18,xg 20 (.load 2 true (.t 3)) 19 false,xg 21 (.load 3 true (.t 4)) 19 false,xg 22 (.call 50 [false,false] [.t 20,.t 21]) 19 false,zN 23 22 19,xQ 24 19 23] (kF 24 [xm 25 3 8,xv 26 9,xS 3 6 25,xv 7 26])) (.seq (kr [xv 27 2,xe 28 27,xI 29 0] (.blk 0 (.loop (kr [bT 30 .lss 29 28] (.seq (kX 30 0) (.seq (.blk 1 (kr [xD 31 1 27 29,xl 32 31,xv 11 32] (kr [xm 33 2 3,xv 34 11,xo 35 (.call 43 [false,true,false] [.t 33,.t 8,.t 34]),xv 12 35] (xr [xv 36 9,xv 37 12,xo 38 (.mkSl [xz] 1 [(0,.t 37)]),xA 39 1 8 36 38,xv 9 39])))) (xr [bI 40 .add 29 1,xv 29 40]))))))) (kR [xm 41 3 8,xv 42 9,xS 3 6 41,xv 7 42])))))⟩
def xY (p:wM) (st:wH×List Int) (who:Int):wH×List Int:=((wT p st.1 who).1,st.2++[(wT p st.1 who).2])
def wBn (p:wM) (s:wH) (picks:List Int):wH×List Int:=picks.foldl (xY p) (s,[])
def eL (p:wM) (s:wH) (picks:List Int):wH×List Int:=if wX p s&&decide ((picks.length:Int)≤4000) then wBn p s picks else (s,[])
theorem qIj {p:wM} {s:wH} (h:wX p s=true) (picks:List Int) :∀i,i≤picks.length→wX p ((picks.take i).foldl (xY p) (s,[])).1=true∧((picks.take i).foldl (xY p) (s,[])).2.length=i
 | 0,_=>⟨h,rfl⟩
 | i+1,hi=>by
  have ih:=qIj h picks i (by omega)
  rw [bO picks 0 i (by omega),List.foldl_append]
  exact ⟨iV _ ih.1,by simp only [List.foldl_cons,List.foldl_nil,xY,List.length_append,ih.2]; rfl⟩
theorem qYa (p:wM) (picks:List Int) (i:Nat) (h:i<picks.length) (st:wH×List Int):(picks.take (i+1)).foldl (xY p) st=xY p ((picks.take i).foldl (xY p) st) (picks.getD i 0):=by
 rw [bO picks 0 i h,List.foldl_append]
 rfl
theorem kD (p:wM) (s:wH) (picks:List Int) (hp:bF p) (hs:qAt s) (h4:picks.length<2^40) :
  qW Tryz.prog num 25 [.agg (jF .bw p),.agg (vW .bw s),.sl .bw 1 (wN picks)] [] (.tup [.agg (vW .own (eL p s picks).1),.sl .own 1 (wN (eL p s picks).2)]):=by
 refine EN m25 Tryz.func20 ?_
 unfold m25
 simp only [go_sem,seval]
 refine CA [] (qM7 s hs) ?_
 try simp only [go_sem,seval]
 by_cases hl:(4000:Int)<picks.length
 ·have hl' :¬(picks.length:Int)≤4000:=by omega
  try simp only [go_sem,seval,hl]
  apply wS (by simp)
  ·exact Sub.refl _
  ·simp [-List.drop_one,-gD,eL,hl',gU]<;>(first | rfl | exact ⟨rfl,rfl⟩ | exact ⟨rfl,rfl,rfl⟩ | skip)
 have hl':(picks.length:Int)≤4000:=by omega
 try simp only [go_sem,seval,hl]
 refine CA [] (lP p s hp hs) ?_
 try simp only [go_sem,seval]
 cases hok:wX p s
 ·try simp only [go_sem,seval,hok]
  apply wS (by simp)
  ·exact Sub.refl _
  ·simp [-List.drop_one,-gD,eL,hok,gU]<;>(first | rfl | exact ⟨rfl,rfl⟩ | exact ⟨rfl,rfl,rfl⟩ | skip)
 try simp only [go_sem,seval,hok]
 refine qX (ι:=Nat) (fun i=>.mk [(3,.ptr 10 0 0),(6,.ptr 12 0 0),(8,.ptr 16 0 0),(9,.ns 17 0 i),(27,.sl .bw 1 (wN picks)),(28,.int .i64 picks.length),(29,.int .i64 i)] [(10,2,[jF .bw p]),(12,3,[[.nil,.nil,.nil]]),(16,3,[vW .own ((picks.take i).foldl (xY p) (s,[])).1]),(17,1,wN ((picks.take i).foldl (xY p) (s,[])).2)] 18) (fun i=>i≤picks.length) (fun i=>picks.length-i) 0 (by simp) ?_ ?_
 ·refine Sub.trans (Sub.fold1 16 0 13 rfl (by simp [-gD]<;>omega) rfl (by decide) (by decide) rfl) ?_
  simp only [fS,qA,qC]
  refine Sub.trans (Sub.fold1 16 1 14 rfl (by simp [-gD]<;>omega) rfl (by decide) (by decide) rfl) ?_
  simp only [fS,qA,qC]
  refine Sub.trans (Sub.fold1 16 2 15 rfl (by simp [-gD]<;>omega) rfl (by decide) (by decide) rfl) ?_
  simp only [fS,qA,qC]
  refine Sub.shape [] id (by omega) ?_ ?_ ?_ ?_<;>simp [qK]
  exact .inl rfl
 ·intro i hi
  have hr:=qIj hok picks i hi
  have hstep:=fun h=>qYa p picks i h (s,[])
  have hfin :¬(i:Int)<picks.length→(picks.take i).foldl (xY p) (s,[])=wBn p s picks:=fun h=>by rw [List.take_of_length_le (by omega)]; rfl
  generalize (picks.take i).foldl (xY p) (s,[])=st at hr hstep hfin
  obtain ⟨hso,hlen⟩:=hr
  have hss:=mS hso
  have htr:=tZ hso
  simp only [go_sem,seval]
  refine qL (fun hc=>?_) (fun hc=>?_)
  ·simp only [decide_eq_true_eq] at hc
   have hl2:i<picks.length:=by omega
   simp only [go_sem,seval,qI picks i hl2]
   repeat refine K ?_
   refine CA [(0,16)] (qLl p st.1 (picks.getD i 0) hp hss hso htr) ?_
   try simp only [go_sem,seval]
   repeat refine K ?_
   try simp only [go_sem,seval,qS (i:=i) (by omega),hlen]
   refine qT (i+1) ?_ hl2 (by omega)
   simp only [hstep hl2,xY]
   refine Sub.shape [] (fun n=>if n=17 then 19 else n) (by omega) ?_ ?_ ?_ ?_<;>simp [qK]
   all_goals exact .inl (qFq _ _)
  ·simp only [decide_eq_false_iff_not] at hc
   have hf:=hfin hc
   simp only [go_sem,seval]
   apply wS (by simp)
   ·exact Sub.refl _
   ·simp [-List.drop_one,-gD,eL,hok,hl',hlen,←hf]<;>(first | rfl | exact ⟨rfl,rfl⟩ | exact ⟨rfl,rfl,rfl⟩ | skip)
def m230:MFn:=⟨29,[.t 6,.t 7],kr [xb 3 0,xI 6 0,xF 7] (.seq (kr [xm 8 2 3,xc1 9 48 (.t 8),xN 10 9,xv 11 10,zv 12 1 11,za 13 1 3 11,zl 14 1 13 11,ze 15 14 11,zI 16 .sub 15 1 11,xg 17 (.call 59 [false,false,false] [.t 12,xi 0,.t 16]) 11 false,zN 18 17 11,xQ 19 11 18] (kF 19 [xo 6 (.mv (.c (.int .i64 (-1)))),xF 7])) (kR [xa 20 1 3,xl 21 20,xv 22 1,xD 23 1 21 22,xl 24 23,xv 25 2,xc2 26 280 (.t 24) (.t 25),xX 27 26 0,xX 28 26 1,xv 6 27,xv 7 28]))⟩
theorem qAd (p:wM) (k at_:Int) (hp:bF p):qW Tryz.prog num 230 [.agg (jF .bw p),.int .i64 k,.int .i64 at_] [] (.tup [.int .i64 (vY p k at_).1,.bool (vY p k at_).2]):=by
 obtain ⟨h1,h2,h3⟩:=hp
 have w1:IntKind.i64.wrap ((p.bods.length:Int)-1)=p.bods.length-1:=wJ (by omega) (by omega)
 refine EN m230 Tryz.func125 ?_
 unfold m230
 simp only [go_sem,seval]
 refine CA [] (fN p (by omega) (by omega) (fun b hb=>by have:=h3 b hb; omega)) ?_
 try simp only [go_sem,seval]
 cases hok:vF p
 ·try simp only [go_sem,seval,hok]
  refine ⟨_,Sub.refl _,jA (by simp) ?_⟩; simp [-List.drop_one]
  simp [vY,hok]
 try simp only [go_sem,seval,hok,w1]
 refine CA [] (yE k 0 (p.bods.length-1)) ?_
 try simp only [go_sem,seval]
 cases hw:qP k 0 (p.bods.length-1)
 ·try simp only [go_sem,seval,hw]
  refine ⟨_,Sub.refl _,jA (by simp) ?_⟩; simp [-List.drop_one]
  simp [vY,hw]
 have hw':=qN.1 hw
 have hk:k.toNat<p.bods.length:=by omega
 try simp only [go_sem,seval,hw,wK .bw p.bods k.toNat hk]
 repeat refine K ?_
 refine CA [] (qAe (p.bods.getD k.toNat []) at_ (h3 _ (wU p.bods k.toNat [] hk))) ?_
 try simp only [go_sem,seval]
 refine ⟨_,Sub.refl _,jA (by simp) ?_⟩; simp [-List.drop_one]
 simp [vY,hok,hw]
def m175:MFn:=⟨85,[.t 8],kr [xb 4 0,xb 5 1,xb 6 2,xF 8] (.seq (kr [xv 13 3,xc2 14 229 (.t 5) (.t 13),xN 15 14,xv 16 15,zv 17 3 16,za 18 0 6 16,zl 19 1 18 16,ze 20 19 16,xg 21 (.bin .geq (.t 17) (.t 20)) 16 false,xQ 22 16 21] (kF 22 [xF 8])) (.seq (.dreg (.take 0 (xa 23 1 5) (.take 1 (xl 24 23) (.take 2 (xv 25 3) (.take 3 (xD 26 4 24 25) (.take 4 (xm 27 4 26) (.take 5 (xa 28 0 6) (.take 6 (xl 29 28) (.take 7 (xv 30 3) (.take 8 (xD 31 3 29 30) (.take 9 (xm 32 3 31) (.both 10 [] (xo 9 (.alloc [.int .i64 0,.nil,.nil,.int .i64 0])) (.only 11 [] (xo 10 (.alloc [.int .i64 0,.nil,.int .i64 0])) (.only 12 [0,1,2,3,4] (xS 4 9 27) (.only 13 [0,1,2,3,4,5,6,7,8,9] (xS 3 10 32) (.done)))) 11 [] (xo 10 (.alloc [.int .i64 0,.nil,.int .i64 0])) (.only 10 [] (xo 9 (.alloc [.int .i64 0,.nil,.nil,.int .i64 0])) (.only 12 [0,1,2,3,4] (xS 4 9 27) (.only 13 [0,1,2,3,4,5,6,7,8,9] (xS 3 10 32) (.done)))))))))))))))) (kr [xm 34 2 4,xv 35 3,xa 36 0 9,xl 37 36,xc3 38 230 (.t 34) (.t 35) (.t 37),xv 33 38,xX 39 33 0,xX 40 33 1,xv 11 39,xv 12 40] (.seq (.blk 0 (kr [xv 42 11,bI 43 .lss 42 0,xv 44 43,za 45 1 9 44,zl 46 1 45 44,ze 47 46 44,zI 48 .lss 47 4 44,xQ 49 44 48,xv 50 49,za 51 1 10 50,zl 52 1 51 50,ze 53 52 50,zI 54 .lss 53 4 50,xQ 55 50 54,xv 41 55] (.cond 41 (kR [xF 8]) (kr [xa 57 3 9,xl 58 57,bI 59 .neq 58 0,xv 56 59] (.cond 56 (kR [xa 60 2 10,xl 61 60,xa 62 3 9,xl 63 62,bT 64 .eql 61 63,xv 8 64]) (kr [xv 66 12,xv 65 66] (.cond 65 (.seq (.dreg (.only 0 [] (xa 67 2 10) (.only 1 [] (xl 68 67) (.only 2 [] (bI 69 .eql 68 0) (.only 3 [] (xv 70 69) (.take 4 (ya 71 0 10 70) (.take 5 (yl 72 1 71 70) (.only 6 [] (yv 73 11 70) (.only 7 [5,4] (xg 74 (.bin .eql (.t 72) (.t 73)) 70 true) (.only 8 [7,5,4] (xP 75 70 74) (.only 9 [8,7,5,4] (xv 76 75) (.take 10 (ya 77 1 9 76) (.take 11 (yl 78 1 77 76) (.take 12 (xg 79 (.cut 1 (.t 78) none (some (xi 4))) 76 true) (.only 13 [9,8,7,5,4] (ya 80 1 10 76) (.only 14 [9,8,7,5,4] (yl 81 1 80 76) (.only 15 [9,8,7,5,4] (xg 82 (.cut 1 (.t 81) none (some (xi 4))) 76 true) (.only 16 [9,12,8,11,7,10,5,4] (xg 83 (.call 34 [false,false] [.t 79,.t 82]) 76 true) (.only 17 [9,16,8,12,7,11,5,10,4] (xP 84 76 83) (.only 18 [4,5,10,11,12] (xv 8 84) (.done))))))))))))))))))))) (.ret)) (.skip)))))))) (kR [xT 8])))))⟩
theorem qH9 (p:wM) (m:qO) (s:wH) (who:Int) (hp:bF p) (hm:iQ m) (hs:qAt s):qW Tryz.prog num 175 [.agg (jF .bw p),.agg (qR .bw m),.agg (vW .bw s),.int .i64 who] [] (.bool (dP p m s who)):=by
 have hl:=hm.cores
 have ht:=hs.ths
 refine EN m175 Tryz.func53 ?_
 unfold m175
 simp only [go_sem,seval]
 refine CA [] (qB7 m who hl) ?_
 try simp only [go_sem,seval]
 cases hw:qP who 0 (m.cores.length-1)
 ·try simp only [go_sem,seval,hw]
  refine fz ?_; simp [qZ,qU,qV,qQ,-List.drop_one]
  simp [dP,hw]
 have hw':=qN.1 hw
 have hk:who.toNat<m.cores.length:=by omega
 by_cases hs':(s.ths.length:Int)≤who
 ·try simp only [go_sem,seval,hw,hs']
  refine fz ?_; simp [qZ,qU,qV,qQ,-List.drop_one]
  have :¬who<s.ths.length:=by omega
  simp [dP,this]
 have hj:who.toNat<s.ths.length:=by omega
 have hlt:who<s.ths.length:=by omega
 have hr1:=hm.regs _ (wU m.cores who.toNat default hk)
 have hr2:=hs.regs _ (wU s.ths who.toNat default hj)
 have hres:dP p m s who=(let k:=m.cores.getD who.toNat default
  let t:=s.ths.getD who.toNat default
  let pl:=vY p who k.at_
  if pl.1<0∨k.regs.length<4∨t.regs.length<4 then false
  else if k.st≠0 then decide (t.st=k.st)
  else if pl.2 then decide (t.st=0)&&decide (t.at_=pl.1)&&decide (k.regs.take 4=t.regs.take 4)
  else true):=by simp only [dP,hw,hlt]; rfl
 rw [hres]
 clear hres
 try simp only [go_sem,seval,hw,hs',jR .bw m.cores who.toNat hk,wI .bw s.ths who.toNat hj]
 repeat refine K ?_
 generalize m.cores.getD who.toNat default=k at hr1
 generalize s.ths.getD who.toNat default=t at hr2
 have hpl:=qAd p who k.at_ hp
 try simp only
 generalize vY p who k.at_=pl at hpl
 refine ⟨?_,?_⟩
 all_goals
  skip
  repeat refine K ?_
  refine CA [] (hpl) ?_
  try simp only [go_sem,seval]
  by_cases c1:pl.1<0
  ·try simp only [go_sem,seval,c1]
   refine fz ?_; simp [qZ,qU,qV,qQ,-List.drop_one]
   try simp [c1]
  by_cases c2:(k.regs.length:Int)<4
  ·try simp only [go_sem,seval,c1,c2]
   refine fz ?_; simp [qZ,qU,qV,qQ,-List.drop_one]
   try simp [c1]
   try omega
  by_cases c3:(t.regs.length:Int)<4
  ·try simp only [go_sem,seval,c1,c2,c3]
   refine fz ?_; simp [qZ,qU,qV,qQ,-List.drop_one]
   try simp [c1]
   try omega
  have hn :¬(pl.1<0∨k.regs.length<4∨t.regs.length<4):=by omega
  rw [if_neg hn]
  by_cases c4:k.st=0
  case neg =>
   try simp only [go_sem,seval,c1,c2,c3,c4]
   refine fz ?_; simp [qZ,qU,qV,qQ,-List.drop_one]
   try simp [c4]
  cases c5:pl.2
  ·try simp only [go_sem,seval,c1,c2,c3,c4,c5]
   refine fz ?_; simp [qZ,qU,qV,qQ,-List.drop_one]
   try simp [c4]
  by_cases c6:t.st=0
  case neg =>
   try simp only [go_sem,seval,c1,c2,c3,c4,c5,c6]
   refine fz ?_; simp [qZ,qU,qV,qQ,-List.drop_one]
   try simp [c4,c6]
  by_cases c7:t.at_=pl.1
  case neg =>
   try simp only [go_sem,seval,c1,c2,c3,c4,c5,c6,c7]
   repeat refine K ?_
   refine fz ?_; simp [qZ,qU,qV,qQ,-List.drop_one]
   try simp [c4,c7]
  try simp only [go_sem,seval,c1,c2,c3,c4,c5,c6,c7]
  repeat refine K ?_
  refine DA [] (iD (k.regs.take 4) (t.regs.take 4) (by simp; omega)) ?_
  try simp only [go_sem,seval]
  refine fz ?_; simp [qZ,qU,qV,qQ,-List.drop_one]
  try simp [c4,c6,c7]
end Go.Sep
