/- Contracts of functions. -/
import Derived.Test.YtjbknbgdfhihcaaGreatJxx21
import Derived.Test.YtjbknbgdfhihcaaGreatJxx7
namespace Go.Sep
set_option maxHeartbeats 16000000
open Go.Proofs
set_option linter.unusedSimpArgs false
set_option linter.unusedVariables false
set_option maxRecDepth 100000
open Nat renaming reduceAdd → qA, reduceMul → qB, reduceEqDiff → qC, reduceBEq → qD
open Int renaming reduceToNat → qE, reduceEq → qF, reduceLT → qG, reduceLE → qH
open List renaming getD_eq_getElem?_getD → gD
def m25:MFn:=⟨43,[.cell 6 3 true,.t 7],kr [xb 3 0,xb 4 1,xo 6 (.alloc [.nil,.nil,.nil]),xo 7 (.mv (.c (.nil)))] (kr [xm 13 3 4,xc1 14 49 (.t 13),xo 8 (.alloc [.nil,.nil,.nil]),xS 3 8 14] (kr [xo 15 (.mkSl [xz] 0 []),xv 9 15] (.seq (kr [xv 16 2,xe 17 16,bI 18 .gtr 17 4000,xv 19 18,xg 20 (.load 2 true (.t 3)) 19 false,xg 21 (.load 3 true (.t 4)) 19 false,xg 22 (.call 50 [false,false] [.t 20,.t 21]) 19 false,zN 23 22 19,xQ 24 19 23] (kF 24 [xm 25 3 8,xv 26 9,xS 3 6 25,xv 7 26])) (.seq (kr [xv 27 2,xe 28 27,xI 29 0] (.blk 0 (.loop (kr [bT 30 .lss 29 28] (.seq (kX 30 0) (.seq (.blk 1 (kr [xD 31 1 27 29,xl 32 31,xv 11 32] (kr [xm 33 2 3,xv 34 11,xo 35 (.call 43 [false,true,false] [.t 33,.t 8,.t 34]),xv 12 35] (xr [xv 36 9,xv 37 12,xo 38 (.mkSl [xz] 1 [(0,.t 37)]),xA 39 1 8 36 38,xv 9 39])))) (xr [bI 40 .add 29 1,xv 29 40]))))))) (kR [xm 41 3 8,xv 42 9,xS 3 6 41,xv 7 42])))))⟩
theorem ints_snoc (l:List Int) (n:Int):ints l++[[.int .i64 n]]=ints (l++[n]):=by simp [ints]
def runStep (p:Prog) (st:Source×List Int) (who:Int):Source×List Int:=((sourceStep p st.1 who).1,st.2++[(sourceStep p st.1 who).2])
def runF (p:Prog) (s:Source) (picks:List Int):Source×List Int:=picks.foldl (runStep p) (s,[])
def sourceRun (p:Prog) (s:Source) (picks:List Int):Source×List Int:=if sourceOk p s&&decide ((picks.length:Int)≤4000) then runF p s picks else (s,[])
theorem sourceStep_keeps {p:Prog} {s:Source} (who:Int) (h:sourceOk p s=true):sourceOk p (sourceStep p s who).1=true:=by
 unfold sourceStep
 split
 ·rename_i hc
  obtain ⟨w0,w1⟩:=code_in hc
  refine sourceOk_step h w1 fun h10=>?_
  have hn:=notesOk_len h
  unfold sourceCode at hc
  split at hc
  ·simp at hc
  ·split at hc
   ·simp at hc
   ·rename_i hx
    have :¬(s.tr.length:Int)=4000:=fun e=>hx (.inr ⟨h10,e⟩)
    omega
 ·exact h
theorem runFold_ok {p:Prog} {s:Source} (h:sourceOk p s=true) (picks:List Int) :∀i,i≤picks.length→sourceOk p ((picks.take i).foldl (runStep p) (s,[])).1=true∧((picks.take i).foldl (runStep p) (s,[])).2.length=i
 | 0,_=>⟨h,rfl⟩
 | i+1,hi=>by
  have ih:=runFold_ok h picks i (by omega)
  rw [qBm picks 0 i (by omega),List.foldl_append]
  exact ⟨sourceStep_keeps _ ih.1,by simp only [List.foldl_cons,List.foldl_nil,runStep,List.length_append,ih.2]; rfl⟩
theorem run_fold (p:Prog) (picks:List Int) (i:Nat) (h:i<picks.length) (st:Source×List Int):(picks.take (i+1)).foldl (runStep p) st=runStep p ((picks.take i).foldl (runStep p) st) (picks.getD i 0):=by
 rw [qBm picks 0 i h,List.foldl_append]
 rfl
theorem implSourceRun_ok (p:Prog) (s:Source) (picks:List Int) (hp:SmallP p) (hs:Small s) (h4:picks.length<2^40) :
  CallOk Tryz.prog num 25 [.agg (progC .bw p),.agg (sourceC .bw s),.sl .bw 1 (ints picks)] [] (.tup [.agg (sourceC .own (sourceRun p s picks).1),.sl .own 1 (ints (sourceRun p s picks).2)]):=by
 refine EN m25 Tryz.func192 ?_
 unfold m25
 simp only [go_sem,seval]
 repeat refine K ?_
 refine CA [] (copySource_ok s hs) ?_
 try simp only [go_sem,seval]
 repeat refine K ?_
 by_cases hl:(4000:Int)<picks.length
 ·have hl' :¬(picks.length:Int)≤4000:=by omega
  try simp only [go_sem,seval,hl]
  repeat refine K ?_
  apply qAc (by simp)
  ·exact Sub.refl _
  ·simp [-List.drop_one,-gD,sourceRun,hl',qB7]<;>(first | rfl | exact ⟨rfl,rfl⟩ | exact ⟨rfl,rfl,rfl⟩ | skip)
 have hl':(picks.length:Int)≤4000:=by omega
 try simp only [go_sem,seval,hl]
 repeat refine K ?_
 refine CA [] (implSourceOk_ok p s hp hs) ?_
 try simp only [go_sem,seval]
 repeat refine K ?_
 cases hok:sourceOk p s
 ·try simp only [go_sem,seval,hok]
  repeat refine K ?_
  apply qAc (by simp)
  ·exact Sub.refl _
  ·simp [-List.drop_one,-gD,sourceRun,hok,qB7]<;>(first | rfl | exact ⟨rfl,rfl⟩ | exact ⟨rfl,rfl,rfl⟩ | skip)
 try simp only [go_sem,seval,hok]
 repeat refine K ?_
 refine qA8 (ι:=Nat) (fun i=>.mk [(3,.ptr 10 0 0),(6,.ptr 12 0 0),(8,.ptr 16 0 0),(9,.ns 17 0 i),(27,.sl .bw 1 (ints picks)),(28,.int .i64 picks.length),(29,.int .i64 i)] [(10,2,[progC .bw p]),(12,3,[[.nil,.nil,.nil]]),(16,3,[sourceC .own ((picks.take i).foldl (runStep p) (s,[])).1]),(17,1,ints ((picks.take i).foldl (runStep p) (s,[])).2)] 18) (fun i=>i≤picks.length) (fun i=>picks.length-i) 0 (by simp) ?_ ?_
 ·refine Sub.trans (Sub.fold1 16 0 13 rfl (by simp [-gD]<;>omega) rfl (by decide) (by decide) rfl) ?_
  simp only [fS,qA,qC]
  refine Sub.trans (Sub.fold1 16 1 14 rfl (by simp [-gD]<;>omega) rfl (by decide) (by decide) rfl) ?_
  simp only [fS,qA,qC]
  refine Sub.trans (Sub.fold1 16 2 15 rfl (by simp [-gD]<;>omega) rfl (by decide) (by decide) rfl) ?_
  simp only [fS,qA,qC]
  refine Sub.shape [] id (by omega) ?_ ?_ ?_ ?_<;>simp [qA2]
  exact .inl rfl
 ·intro i hi
  have hr:=runFold_ok hok picks i hi
  have hstep:=fun h=>run_fold p picks i h (s,[])
  have hfin :¬(i:Int)<picks.length→(picks.take i).foldl (runStep p) (s,[])=runF p s picks:=fun h=>by rw [List.take_of_length_le (by omega)]; rfl
  generalize (picks.take i).foldl (runStep p) (s,[])=st at hr hstep hfin
  obtain ⟨hso,hlen⟩:=hr
  have hss:=small_of hso
  have htr:=notesOk_len hso
  simp only [go_sem,seval]
  refine qA1 (fun hc=>?_) (fun hc=>?_)
  ·simp only [decide_eq_true_eq] at hc
   have hl2:i<picks.length:=by omega
   simp only [go_sem,seval,qA0 picks i hl2]
   repeat refine K ?_
   refine CA [(0,16)] (sourceStep_ok p st.1 (picks.getD i 0) hp hss hso htr) ?_
   try simp only [go_sem,seval]
   repeat refine K ?_
   try simp only [go_sem,seval,qA7 (i:=i) (by omega),hlen]
   repeat refine K ?_
   refine qA6 (i+1) ?_ hl2 (by omega)
   simp only [hstep hl2,runStep]
   refine Sub.shape [] (fun n=>if n=17 then 19 else n) (by omega) ?_ ?_ ?_ ?_<;>simp [qA2]
   all_goals exact .inl (ints_snoc _ _)
  ·simp only [decide_eq_false_iff_not] at hc
   have hf:=hfin hc
   simp only [go_sem,seval]
   repeat refine K ?_
   apply qAc (by simp)
   ·exact Sub.refl _
   ·simp [-List.drop_one,-gD,sourceRun,hok,hl',hlen,←hf]<;>(first | rfl | exact ⟨rfl,rfl⟩ | exact ⟨rfl,rfl,rfl⟩ | skip)
def m145:MFn:=⟨52,[.cell 6 3 true,.t 7],kr [xb 3 0,xb 4 1,xo 6 (.alloc [.nil,.nil,.nil]),xo 7 (.mv (.c (.nil)))] (kr [xo 13 (.mkSl [xz] 0 []),xv 8 13] (kr [xm 14 3 4,xc1 15 65 (.t 14),xo 9 (.alloc [.nil,.nil,.nil]),xS 3 9 15] (.seq (kr [xm 16 2 3,xm 17 3 4,xc2 18 63 (.t 16) (.t 17),xN 19 18,xv 20 19,zv 21 2 20,ze 22 21 20,zI 23 .gtr 22 4000 20,xQ 24 20 23] (kF 24 [xm 25 3 9,xv 26 8,xS 3 6 25,xv 7 26])) (.seq (kr [xI 10 0] (.blk 0 (.loop (.seq (kr [xv 27 10,xv 28 2,xe 29 28,bT 30 .lss 27 29] (kX 30 0)) (.seq (.blk 1 (.seq (.dreg (.take 0 (xm 34 2 3) (.take 1 (xm 35 3 9) (.take 2 (xv 36 2) (.take 3 (xv 37 10) (.take 4 (xD 38 1 36 37) (.take 5 (xl 39 38) (.both 6 [0,1,5,4,2,3] (xc3 40 46 (.t 34) (.t 35) (.t 39)) (.take 7 (xv 33 40) (.take 8 (xX 41 33 0) (.take 9 (xX 42 33 1) (.only 10 [] (xo 11 (.alloc [.nil,.nil,.nil])) (.only 11 [0,1,2,3,4,5,7,8] (xS 3 11 41) (.only 12 [0,1,2,3,4,5,7,8,9] (xv 12 42) (.done))))))) 10 [] (xo 11 (.alloc [.nil,.nil,.nil])) (.only 6 [0,1,5,4,2,3] (xc3 40 46 (.t 34) (.t 35) (.t 39)) (.only 7 [6,0,1,5,4,2,3] (xv 33 40) (.take 8 (xX 41 33 0) (.take 9 (xX 42 33 1) (.only 11 [0,1,2,3,4,5,8] (xS 3 11 41) (.only 12 [0,1,2,3,4,5,8,9] (xv 12 42) (.done))))))))))))))) (kr [xv 43 8,xv 44 12,xo 45 (.mkSl [xz] 1 [(0,.t 44)]),xA 46 1 8 43 45,xv 8 46] (kr [xv 47 12,bI 48 .eql 47 0] (.cond 48 (xr [xm 49 3 11,xS 3 9 49]) (.skip)))))) (xr [xv 31 10,bI 32 .add 31 1,xv 10 32])))))) (kR [xm 50 3 9,xv 51 8,xS 3 6 50,xv 7 51])))))⟩
theorem sourceStep_code {p:Prog} {s:Source} {who:Int} (h :¬(sourceStep p s who).2=0):(sourceStep p s who).1=s:=by
 unfold sourceStep at h⊢
 split
 ·rename_i hc
  rw [if_pos hc] at h
  exact absurd rfl h
 ·rfl
theorem specSourceRun_ok (p:Prog) (s:Source) (picks:List Int) (hp:SmallP p) (hs:Small s) (h4:picks.length<2^40) :
  CallOk Tryz.prog num 145 [.agg (progC .bw p),.agg (sourceC .bw s),.sl .bw 1 (ints picks)] [] (.tup [.agg (sourceC .own (sourceRun p s picks).1),.sl .own 1 (ints (sourceRun p s picks).2)]):=by
 refine EN m145 Tryz.func190 ?_
 unfold m145
 simp only [go_sem,seval]
 repeat refine K ?_
 refine CA [] (l4Copy_ok s hs) ?_
 try simp only [go_sem,seval]
 repeat refine K ?_
 try simp only [go_sem,seval]
 repeat refine K ?_
 refine CA [] (specSourceOk_ok p s hp hs) ?_
 try simp only [go_sem,seval]
 repeat refine K ?_
 cases hok:sourceOk p s
 ·try simp only [go_sem,seval,hok]
  repeat refine K ?_
  apply qAc (by simp)
  ·exact Sub.refl _
  ·simp [-List.drop_one,-gD,sourceRun,hok,qB7]<;>(first | rfl | exact ⟨rfl,rfl⟩ | exact ⟨rfl,rfl,rfl⟩ | skip)
 by_cases hl:(4000:Int)<picks.length
 ·have hl' :¬(picks.length:Int)≤4000:=by omega
  try simp only [go_sem,seval,hok,hl]
  repeat refine K ?_
  apply qAc (by simp)
  ·exact Sub.refl _
  ·simp [-List.drop_one,-gD,sourceRun,hl',qB7]<;>(first | rfl | exact ⟨rfl,rfl⟩ | exact ⟨rfl,rfl,rfl⟩ | skip)
 have hl':(picks.length:Int)≤4000:=by omega
 try simp only [go_sem,seval,hok,hl]
 repeat refine K ?_
 refine qA8 (ι:=Nat) (fun i=>.mk [(2,.sl .bw 1 (ints picks)),(3,.ptr 10 0 0),(6,.ptr 12 0 0),(8,.ns 13 0 i),(9,.ptr 17 0 0),(10,.int .i64 i)] [(10,2,[progC .bw p]),(12,3,[[.nil,.nil,.nil]]),(13,1,ints ((picks.take i).foldl (runStep p) (s,[])).2),(17,3,[sourceC .own ((picks.take i).foldl (runStep p) (s,[])).1])] 18) (fun i=>i≤picks.length) (fun i=>picks.length-i) 0 (by simp) ?_ ?_
 ·refine Sub.trans (Sub.fold1 17 0 14 rfl (by simp [-gD]<;>omega) rfl (by decide) (by decide) rfl) ?_
  simp only [fS,qA,qC]
  refine Sub.trans (Sub.fold1 17 1 15 rfl (by simp [-gD]<;>omega) rfl (by decide) (by decide) rfl) ?_
  simp only [fS,qA,qC]
  refine Sub.trans (Sub.fold1 17 2 16 rfl (by simp [-gD]<;>omega) rfl (by decide) (by decide) rfl) ?_
  simp only [fS,qA,qC]
  refine Sub.shape [] id (by omega) ?_ ?_ ?_ ?_<;>simp [qA2]
  exact .inl rfl
 ·intro i hi
  have hr:=runFold_ok hok picks i hi
  have hstep:=fun h=>run_fold p picks i h (s,[])
  have hfin :¬(i:Int)<picks.length→(picks.take i).foldl (runStep p) (s,[])=runF p s picks:=fun h=>by rw [List.take_of_length_le (by omega)]; rfl
  generalize (picks.take i).foldl (runStep p) (s,[])=st at hr hstep hfin
  obtain ⟨hso,hlen⟩:=hr
  have hss:=small_of hso
  simp only [go_sem,seval]
  refine qA1 (fun hc=>?_) (fun hc=>?_)
  ·simp only [decide_eq_true_eq] at hc
   have hl2:i<picks.length:=by omega
   have e:specSourceStep p st.1 (picks.getD i 0)=sourceStep p st.1 (picks.getD i 0):=by unfold specSourceStep; rw [if_pos hso]
   simp only [go_sem,seval,qA0 picks i hl2]
   repeat refine K ?_
   refine ⟨?_,?_⟩
   ·repeat refine K ?_
    refine DA [] (specSourceStep_ok p st.1 (picks.getD i 0) hp hss) ?_
    try simp only [go_sem,seval]
    repeat refine K ?_
    try simp only [go_sem,seval,e,qA7 (i:=i) (by omega),hlen]
    repeat refine K ?_
    by_cases hcode:(sourceStep p st.1 (picks.getD i 0)).2=0
    ·try simp only [go_sem,seval,hcode,qA7 (i:=i) (by omega),hlen]
     repeat refine K ?_
     refine qA6 (i+1) ?_ hl2 (by omega)
     simp only [hstep hl2,runStep,hcode]
     refine Sub.trans (Sub.fold1 17 0 21 rfl (by simp [-gD]<;>omega) rfl (by decide) (by decide) rfl) ?_
     simp only [fS,qA,qC]
     refine Sub.trans (Sub.fold1 17 1 22 rfl (by simp [-gD]<;>omega) rfl (by decide) (by decide) rfl) ?_
     simp only [fS,qA,qC]
     refine Sub.trans (Sub.fold1 17 2 23 rfl (by simp [-gD]<;>omega) rfl (by decide) (by decide) rfl) ?_
     simp only [fS,qA,qC]
     refine Sub.shape [] (fun n=>if n=13 then 26 else n) (by omega) ?_ ?_ ?_ ?_<;>simp [qA2]
     all_goals exact .inl (ints_snoc _ _)
    ·try simp only [go_sem,seval,hcode,qA7 (i:=i) (by omega),hlen]
     repeat refine K ?_
     refine qA6 (i+1) ?_ hl2 (by omega)
     simp only [hstep hl2,runStep,sourceStep_code hcode]
     refine Sub.trans (Sub.fold1 17 0 18 rfl (by simp [-gD]<;>omega) rfl (by decide) (by decide) rfl) ?_
     simp only [fS,qA,qC]
     refine Sub.trans (Sub.fold1 17 1 19 rfl (by simp [-gD]<;>omega) rfl (by decide) (by decide) rfl) ?_
     simp only [fS,qA,qC]
     refine Sub.trans (Sub.fold1 17 2 20 rfl (by simp [-gD]<;>omega) rfl (by decide) (by decide) rfl) ?_
     simp only [fS,qA,qC]
     refine Sub.shape [] (fun n=>if n=13 then 26 else n) (by omega) ?_ ?_ ?_ ?_<;>simp [qA2]
     all_goals exact .inl (ints_snoc _ _)
   ·repeat refine K ?_
    refine DA [] (specSourceStep_ok p st.1 (picks.getD i 0) hp hss) ?_
    try simp only [go_sem,seval]
    repeat refine K ?_
    try simp only [go_sem,seval,e,qA7 (i:=i) (by omega),hlen]
    repeat refine K ?_
    by_cases hcode:(sourceStep p st.1 (picks.getD i 0)).2=0
    ·try simp only [go_sem,seval,hcode,qA7 (i:=i) (by omega),hlen]
     repeat refine K ?_
     refine qA6 (i+1) ?_ hl2 (by omega)
     simp only [hstep hl2,runStep,hcode]
     refine Sub.trans (Sub.fold1 17 0 22 rfl (by simp [-gD]<;>omega) rfl (by decide) (by decide) rfl) ?_
     simp only [fS,qA,qC]
     refine Sub.trans (Sub.fold1 17 1 23 rfl (by simp [-gD]<;>omega) rfl (by decide) (by decide) rfl) ?_
     simp only [fS,qA,qC]
     refine Sub.trans (Sub.fold1 17 2 24 rfl (by simp [-gD]<;>omega) rfl (by decide) (by decide) rfl) ?_
     simp only [fS,qA,qC]
     refine Sub.shape [] (fun n=>if n=13 then 26 else n) (by omega) ?_ ?_ ?_ ?_<;>simp [qA2]
     all_goals exact .inl (ints_snoc _ _)
    ·try simp only [go_sem,seval,hcode,qA7 (i:=i) (by omega),hlen]
     repeat refine K ?_
     refine qA6 (i+1) ?_ hl2 (by omega)
     simp only [hstep hl2,runStep,sourceStep_code hcode]
     refine Sub.trans (Sub.fold1 17 0 18 rfl (by simp [-gD]<;>omega) rfl (by decide) (by decide) rfl) ?_
     simp only [fS,qA,qC]
     refine Sub.trans (Sub.fold1 17 1 19 rfl (by simp [-gD]<;>omega) rfl (by decide) (by decide) rfl) ?_
     simp only [fS,qA,qC]
     refine Sub.trans (Sub.fold1 17 2 20 rfl (by simp [-gD]<;>omega) rfl (by decide) (by decide) rfl) ?_
     simp only [fS,qA,qC]
     refine Sub.shape [] (fun n=>if n=13 then 26 else n) (by omega) ?_ ?_ ?_ ?_<;>simp [qA2]
     all_goals exact .inl (ints_snoc _ _)
  ·simp only [decide_eq_false_iff_not] at hc
   have hf:=hfin hc
   simp only [go_sem,seval]
   repeat refine K ?_
   apply qAc (by simp)
   ·exact Sub.refl _
   ·simp [-List.drop_one,-gD,sourceRun,hok,hl',hlen,←hf]<;>(first | rfl | exact ⟨rfl,rfl⟩ | exact ⟨rfl,rfl,rfl⟩ | skip)
theorem sourceNew_ok {p:Prog} (h:progOk p=true):sourceOk p (sourceNew p).1=true:=by
 have hp:=h
 simp only [progOk,capsOk,Bool.and_eq_true,decide_eq_true_eq] at hp
 obtain ⟨⟨⟨hb,_⟩,hc⟩,_⟩:=hp
 rw [qE0]
 simp only [sourceNew,h,if_true]
 refine ⟨?_,?_,?_,?_,fun i hi=>?_,fun j hj=>?_⟩
 any_goals (first | exact h | (simp; done) | (simp [notesOk]; done))
 ·have hi':i<p.bods.length:=by simpa using hi
  have hg:(List.replicate p.bods.length thread0).getD i default=thread0:=by simp [List.getD_eq_getElem?_getD,hi']
  have h2:=List.all_eq_true.1 hb _ (qAd p.bods i [] hi')
  simp only [bodyOk,Bool.and_eq_true,within_iff] at h2
  rw [hg]
  simp only [threadOk,thread0,Bool.and_eq_true,decide_eq_true_eq,within_iff]
  refine ⟨⟨rfl,by omega⟩,by omega⟩
 ·have hj':j<p.caps.length:=by simpa using hj
  have hg:(p.caps.map fun c=>(⟨c,[],false⟩:Chan)).getD j default=⟨p.caps.getD j 0,[],false⟩:=by simp [List.getD_eq_getElem?_getD,hj']
  rw [hg]
  have h2:=List.all_eq_true.1 hc _ (qAd p.caps j 0 hj')
  refine ⟨?_,rfl⟩
  simp only [chanOk,h2,Bool.true_and,decide_eq_true_eq]
  rw [within_iff] at h2
  simp [-List.getD_eq_getElem?_getD]
  omega
theorem smallP_of {p:Prog} (h:progOk p=true):SmallP p:=by
 simp only [progOk,Bool.and_eq_true,decide_eq_true_eq,within_iff] at h
 obtain ⟨⟨⟨hb,h1⟩,_⟩,h2⟩:=h
 refine ⟨by omega,by omega,fun b hb'=>?_⟩
 have:=List.all_eq_true.1 hb b hb'
 simp only [bodyOk,Bool.and_eq_true,within_iff] at this
 omega
def m429:MFn:=⟨48,[.cell 4 3 true,.t 5],kr [xb 2 0,xo 4 (.alloc [.nil,.nil,.nil]),xF 5] (kr [xm 12 2 2,xc1 13 45 (.t 12),xv 11 13,xX 14 11 0,xX 15 11 1,xo 6 (.alloc [.nil,.nil,.nil]),xS 3 6 14,xv 7 15] (kr [xm 17 2 2,xm 18 3 6,xv 19 1,xc3 20 145 (.t 17) (.t 18) (.t 19),xv 16 20,xX 21 16 0,xX 22 16 1,xo 8 (.alloc [.nil,.nil,.nil]),xS 3 8 21,xv 9 22] (.seq (kr [xI 10 0] (.blk 0 (.loop (.seq (kr [xv 23 10,xv 24 9,xe 25 24,bT 26 .lss 23 25] (kX 26 0)) (.seq (.blk 1 (kr [xv 29 9,xv 30 10,xD 31 1 29 30,xl 32 31,bI 33 .neq 32 0,xv 34 33,yv 35 9 34,yv 36 10 34,xg 37 (.iad 1 (.t 35) (.t 36)) 34 true,yl 38 1 37 34,yI 39 .neq 38 4 34,xP 40 34 39] (kF 40 [xm 41 3 8,xS 3 4 41,xF 5]))) (xr [xv 27 10,bI 28 .add 27 1,xv 10 28])))))) (kR [xm 42 3 8,xv 43 9,xe 44 43,xv 45 1,xe 46 45,bT 47 .eql 44 46,xS 3 4 42,xv 5 47]))))⟩
def m430:MFn:=⟨19,[.cell 4 3 true,.t 5],kr [xb 2 0,xo 4 (.alloc [.nil,.nil,.nil]),xo 5 (.mv (.c (.nil)))] (kr [xm 9 2 2,xc1 10 24 (.t 9),xv 8 10,xX 11 8 0,xX 12 8 1,xo 6 (.alloc [.nil,.nil,.nil]),xS 3 6 11,xv 7 12] (kR [xm 13 2 2,xm 14 3 6,xv 15 1,xc3 16 25 (.t 13) (.t 14) (.t 15),xX 17 16 0,xX 18 16 1,xS 3 4 17,xv 5 18]))⟩
def jsrc (p:Prog) (o:List Int):Source×List Int:=sourceRun p (sourceNew p).1 o
def jdone (c:List Int):Bool:=c.all fun x=>decide (x=0)||decide (x=4)
theorem jsrc_small (p:Prog) (o:List Int) (h:progOk p=true):Small (sourceNew p).1:=small_of (sourceNew_ok h)
theorem runF_len (p:Prog) :∀(l:List Int) (s:Source) (c:List Int),(l.foldl (runStep p) (s,c)).2.length=c.length+l.length
 | [],s,c=>by simp
 | x::l,s,c=>by
  simp only [List.foldl_cons,runStep]
  rw [runF_len p l]
  simp
  omega
theorem runF_right (p:Prog) :∀(l:List Int) (s:Source) (c:List Int),sourceOk p s=true→sourceOk p (l.foldl (runStep p) (s,c)).1=true
 | [],s,c,h=>h
 | x::l,s,c,h=>by
  simp only [List.foldl_cons,runStep]
  exact runF_right p l _ _ (sourceStep_keeps x h)
theorem jsrc_right {p:Prog} {o:List Int} (h:progOk p=true):sourceOk p (jsrc p o).1=true:=by
 unfold jsrc sourceRun
 split
 ·exact runF_right p o _ _ (sourceNew_ok h)
 ·exact sourceNew_ok h
theorem jsrc_len {p:Prog} {o:List Int} (h:progOk p=true) (hl:o.length≤4000):(jsrc p o).2.length=o.length:=by
 unfold jsrc sourceRun
 rw [sourceNew_ok h,decide_eq_true (show (o.length:Int)≤4000 by omega)]
 show (o.foldl (runStep p) ((sourceNew p).1,[])).2.length=_
 rw [runF_len]
 simp
theorem jdone_step {c:List Int} {i:Nat} (h:jdone (c.take i)=true) (hi:i<c.length) (hp:c.getD i 0=0∨c.getD i 0=4):jdone (c.take (i+1))=true:=by
 unfold jdone at *
 exact qC2 (d:=0) h hi (by rcases hp with h | h<;>rw [h]<;>rfl)
theorem jdone_stop {c:List Int} {i:Nat} (hi:i<c.length) (h0 :¬c.getD i 0=0) (h4 :¬c.getD i 0=4):jdone c=false:=by
 unfold jdone
 exact qBq (d:=0) hi (by rw [decide_eq_false h0,decide_eq_false h4]; rfl)
theorem implOrdered_ok (p:Prog) (o:List Int) (h:progOk p=true) (hl:o.length<2^40):CallOk Tryz.prog num 430 [.agg (progC .bw p),.sl .bw 1 (ints o)] [] (.tup [.agg (sourceC .own (jsrc p o).1),.sl .own 1 (ints (jsrc p o).2)]):=by
 have hpp:=smallP_of h
 refine EN m430 Tryz.func118 ?_
 unfold m430
 simp only [go_sem,seval]
 repeat refine K ?_
 refine CA [] (implSourceNew_ok p hpp.caps hpp.bods hpp.body') ?_
 try simp only [go_sem,seval]
 repeat refine K ?_
 try simp only [go_sem,seval]
 repeat refine K ?_
 refine CA [] (implSourceRun_ok p (sourceNew p).1 o hpp (jsrc_small p o h) hl) ?_
 try simp only [go_sem,seval]
 repeat refine K ?_
 try simp only [go_sem,seval]
 repeat refine K ?_
 apply qAc (by simp)
 ·exact Sub.refl _
 ·simp [-List.drop_one,-gD,jsrc,sourceC]<;>(first | rfl | exact ⟨rfl,rfl⟩ | exact ⟨rfl,rfl,rfl⟩ | skip)
theorem specL14Source_ok (p:Prog) (o:List Int) (h:progOk p=true) (hl:o.length≤4000):CallOk Tryz.prog num 429 [.agg (progC .bw p),.sl .bw 1 (ints o)] [] (.tup [.agg (sourceC .own (jsrc p o).1),.bool (jdone (jsrc p o).2)]):=by
 have hpp:=smallP_of h
 have hlen:=jsrc_len h hl
 have hj:sourceRun p (sourceNew p).1 o=jsrc p o:=rfl
 refine EN m429 Tryz.func117 ?_
 unfold m429
 simp only [go_sem,seval]
 repeat refine K ?_
 refine CA [] (specSourceNew_ok p hpp.caps hpp.bods hpp.body') ?_
 try simp only [go_sem,seval]
 repeat refine K ?_
 try simp only [go_sem,seval]
 repeat refine K ?_
 refine CA [] (specSourceRun_ok p (sourceNew p).1 o hpp (jsrc_small p o h) (by omega)) ?_
 try simp only [go_sem,seval]
 repeat refine K ?_
 rw [hj]
 generalize jsrc p o=q at *
 obtain ⟨s,c⟩:=q
 simp only at hlen⊢
 try simp only [go_sem,seval]
 repeat refine K ?_
 refine qA8 (ι:=Nat) (fun i=>.mk [(1,.sl .bw 1 (ints o)),(4,.ptr 11 0 0),(8,.ptr 20 0 0),(9,.ns 19 0 c.length),(10,.int .i64 i)] [(11,3,[[.nil,.nil,.nil]]),(20,3,[sourceC .own s]),(19,1,ints c)] 21) (fun i=>i≤c.length∧jdone (c.take i)=true) (fun i=>c.length-i) 0 (by simp [jdone]) ?_ ?_
 ·refine Sub.trans (Sub.fold1 20 0 16 rfl (by simp [-gD]<;>omega) rfl (by decide) (by decide) rfl) ?_
  simp only [fS,fS2,qA,qC]
  refine Sub.trans (Sub.fold1 20 1 17 rfl (by simp [-gD]<;>omega) rfl (by decide) (by decide) rfl) ?_
  simp only [fS,fS2,qA,qC]
  refine Sub.trans (Sub.fold1 20 2 18 rfl (by simp [-gD]<;>omega) rfl (by decide) (by decide) rfl) ?_
  simp only [fS,fS2,qA,qC]
  refine Sub.shape [] id (by omega) ?_ ?_ ?_ ?_<;>simp [qA2]
 ·rintro i ⟨hi,hq⟩
  simp only [go_sem,seval]
  repeat refine K ?_
  refine qA1 (fun hc=>?_) (fun hc=>?_)
  ·simp only [decide_eq_true_eq] at hc
   have hil:i<c.length:=by omega
   simp only [go_sem,seval,qA0 c i hil]
   repeat refine K ?_
   by_cases h0:c.getD i 0=0
   ·try simp only [go_sem,seval,h0,qA7 (i:=i) (by omega)]
    repeat refine K ?_
    refine qA6 (i+1) (Sub.shape [] id (by omega) ?_ ?_ ?_ ?_) ?_ ?_
    any_goals (first | omega | (simp [qA2]; done))
    exact ⟨hil,jdone_step hq hil (.inl h0)⟩
   by_cases h4:c.getD i 0=4
   ·try simp only [go_sem,seval,h0,h4,qA0 c i hil,qA7 (i:=i) (by omega)]
    repeat refine K ?_
    refine qA6 (i+1) (Sub.shape [] id (by omega) ?_ ?_ ?_ ?_) ?_ ?_
    any_goals (first | omega | (simp [qA2]; done))
    exact ⟨hil,jdone_step hq hil (.inr h4)⟩
   have hjf:=jdone_stop hil h0 h4
   try simp only [go_sem,seval,h0,h4,qA0 c i hil]
   repeat refine K ?_
   rw [hjf]
   apply qAc (by simp)
   ·exact Sub.refl _
   ·simp [-List.drop_one,-gD,sourceC]<;>(first | rfl | exact ⟨rfl,rfl⟩ | exact ⟨rfl,rfl,rfl⟩ | skip)
  ·simp only [decide_eq_false_iff_not] at hc
   have he:i=c.length:=by omega
   subst he
   rw [List.take_length] at hq
   have e1:decide ((c.length:Int)=o.length)=true:=by simp; omega
   simp only [go_sem,seval,e1]
   repeat refine K ?_
   rw [hq]
   apply qAc (by simp)
   ·exact Sub.refl _
   ·simp [-List.drop_one,-gD,sourceC]<;>(first | rfl | exact ⟨rfl,rfl⟩ | exact ⟨rfl,rfl,rfl⟩ | skip)
theorem witness_right {p:Prog} {l:List Pick} (h:(witness p l).2.2=true):progOk p=true∧lieOk p.caps=true∧machineOk (witness p l).2.1=true∧(launch p).2=true∧witness p l=(worder p (launch p).1 l,mrun (launch p).1 l,true)∧(witness p l).1.length≤l.length:=by
 unfold witness at h⊢
 split at h
 ·rename_i hc
  rw [if_pos hc]
  simp only [Bool.and_eq_true,decide_eq_true_eq] at hc
  obtain ⟨h1,h2,h3,h4⟩:=launch_codes hc.1
  exact ⟨h1,h2,mrun_ok l h4,hc.1,rfl,worder_len p _ l⟩
 ·exact absurd h (by simp)
end Go.Sep
