/- Contracts of functions. -/
import Derived.Test.YtebbppogicgpkaaGreatQxx34
import Derived.Test.YtebbppogicgpkaaGreatQxx9
namespace Go.Sep
set_option maxHeartbeats 16000000
open Go.Proofs
set_option linter.unusedSimpArgs false
set_option linter.unusedVariables false
set_option maxRecDepth 100000
open Nat renaming reduceAdd → qA, reduceMul → qB, reduceEqDiff → qC, reduceBEq → qD
open Int renaming reduceToNat → qE, reduceEq → qF, reduceLT → qG, reduceLE → qH
open List renaming getD_eq_getElem?_getD → gD
theorem small_of {p:Prog} {s:Source} (h:sourceOk p s=true):Small s:=by
 have hn:=notesOk_len h
 rw [qAk] at h
 obtain ⟨a,b,c,d,e,f⟩:=h
 simp only [progOk,Bool.and_eq_true,decide_eq_true_eq,within_iff] at a
 refine ⟨by omega,by omega,by omega,fun t ht=>?_,fun c' hc'=>?_⟩
 ·obtain ⟨i,hi,rfl⟩:=List.getElem_of_mem ht
  have:=e i hi
  simp only [threadOk,Bool.and_eq_true,decide_eq_true_eq] at this
  have hg:s.ths.getD i default=s.ths[i]:=by simp [List.getD_eq_getElem?_getD,hi]
  rw [hg] at this
  omega
 ·obtain ⟨i,hi,rfl⟩:=List.getElem_of_mem hc'
  have:=chanOk_cap (f i hi).1
  have h2:=(f i hi).1
  simp only [chanOk,Bool.and_eq_true,within_iff] at h2
  have hg:s.chs.getD i default=s.chs[i]:=by simp [List.getD_eq_getElem?_getD,hi]
  rw [hg] at this h2
  omega
def m25:MFn:=⟨43,[.cell 6 3 true,.t 7],kr [xb 3 0,xb 4 1,xo 6 (.alloc [.nil,.nil,.nil]),xo 7 (.mv (.c (.nil)))] (kr [xm 13 3 4,xc1 14 49 (.t 13),xo 8 (.alloc [.nil,.nil,.nil]),xS 3 8 14] (kr [xo 15 (.mkSl [xz] 0 []),xv 9 15] (.seq (kr [xv 16 2,xe 17 16,bI 18 .gtr 17 4000,xv 19 18,xg 20 (.load 2 true (.t 3)) 19 false,xg 21 (.load 3 true (.t 4)) 19 false,xg 22 (.call 50 [false,false] [.t 20,.t 21]) 19 false,zN 23 22 19,xQ 24 19 23] (kF 24 [xm 25 3 8,xv 26 9,xS 3 6 25,xv 7 26])) (.seq (kr [xv 27 2,xe 28 27,xI 29 0] (.blk 0 (.loop (kr [bT 30 .lss 29 28] (.seq (kX 30 0) (.seq (.blk 1 (kr [xD 31 1 27 29,xl 32 31,xv 11 32] (kr [xm 33 2 3,xv 34 11,xo 35 (.call 43 [false,true,false] [.t 33,.t 8,.t 34]),xv 12 35] (xr [xv 36 9,xv 37 12,xo 38 (.mkSl [xz] 1 [(0,.t 37)]),xA 39 1 8 36 38,xv 9 39])))) (xr [bI 40 .add 29 1,xv 29 40]))))))) (kR [xm 41 3 8,xv 42 9,xS 3 6 41,xv 7 42])))))⟩
theorem runFold_ok {p:Prog} {s:Source} (h:sourceOk p s=true) (picks:List Int) :∀i,i≤picks.length→sourceOk p ((picks.take i).foldl (runStep p) (s,[])).1=true∧((picks.take i).foldl (runStep p) (s,[])).2.length=i
 | 0,_=>⟨h,rfl⟩
 | i+1,hi=>by
  have ih:=runFold_ok h picks i (by omega)
  rw [take_snoc picks 0 i (by omega),List.foldl_append]
  exact ⟨sourceStep_keeps _ ih.1,by simp only [List.foldl_cons,List.foldl_nil,runStep,List.length_append,ih.2]; rfl⟩
theorem run_fold (p:Prog) (picks:List Int) (i:Nat) (h:i<picks.length) (st:Source×List Int):(picks.take (i+1)).foldl (runStep p) st=runStep p ((picks.take i).foldl (runStep p) st) (picks.getD i 0):=by
 rw [take_snoc picks 0 i h,List.foldl_append]
 rfl
theorem implSourceRun_ok (p:Prog) (s:Source) (picks:List Int) (hp:SmallP p) (hs:Small s) (h4:picks.length<2^40) :
  CallOk Tryz.prog num 25 [.agg (progC .bw p),.agg (sourceC .bw s),.sl .bw 1 (ints picks)] [] (.tup [.agg (sourceC .own (sourceRun p s picks).1),.sl .own 1 (ints (sourceRun p s picks).2)]):=by
 refine EN m25 Tryz.func20 ?_
 unfold m25
 simp only [go_sem,seval]
 repeat refine K ?_
 refine CA [] (copySource_ok s hs) ?_
 try simp only [go_sem,seval]
 repeat refine K ?_
 by_cases hl:(4000:Int)<picks.length
 ·have hl' :¬(picks.length:Int)≤4000:=by omega
  try simp only [go_sem,seval,hl]
  repeat refine K ?_
  apply fin_tup (by simp)
  ·exact Sub.refl _
  ·simp [-List.drop_one,-gD,sourceRun,hl',ints_nil]<;>(first | rfl | exact ⟨rfl,rfl⟩ | exact ⟨rfl,rfl,rfl⟩ | skip)
 have hl':(picks.length:Int)≤4000:=by omega
 try simp only [go_sem,seval,hl]
 repeat refine K ?_
 refine CA [] (implSourceOk_ok p s hp hs) ?_
 try simp only [go_sem,seval]
 repeat refine K ?_
 cases hok:sourceOk p s
 ·try simp only [go_sem,seval,hok]
  repeat refine K ?_
  apply fin_tup (by simp)
  ·exact Sub.refl _
  ·simp [-List.drop_one,-gD,sourceRun,hok,ints_nil]<;>(first | rfl | exact ⟨rfl,rfl⟩ | exact ⟨rfl,rfl,rfl⟩ | skip)
 try simp only [go_sem,seval,hok]
 repeat refine K ?_
 refine loop_intro (ι:=Nat) (fun i=>.mk [(3,.ptr 10 0 0),(6,.ptr 12 0 0),(8,.ptr 16 0 0),(9,.ns 17 0 i),(27,.sl .bw 1 (ints picks)),(28,.int .i64 picks.length),(29,.int .i64 i)] [(10,2,[progC .bw p]),(12,3,[[.nil,.nil,.nil]]),(16,3,[sourceC .own ((picks.take i).foldl (runStep p) (s,[])).1]),(17,1,ints ((picks.take i).foldl (runStep p) (s,[])).2)] 18) (fun i=>i≤picks.length) (fun i=>picks.length-i) 0 (by simp) ?_ ?_
 ·refine Sub.trans (Sub.fold1 16 0 13 rfl (by simp [-gD]<;>omega) rfl (by decide) (by decide) rfl) ?_
  simp only [fS,qA,qC]
  refine Sub.trans (Sub.fold1 16 1 14 rfl (by simp [-gD]<;>omega) rfl (by decide) (by decide) rfl) ?_
  simp only [fS,qA,qC]
  refine Sub.trans (Sub.fold1 16 2 15 rfl (by simp [-gD]<;>omega) rfl (by decide) (by decide) rfl) ?_
  simp only [fS,qA,qC]
  refine Sub.shape [] id (by omega) ?_ ?_ ?_ ?_<;>simp [ints_rep]
  exact .inl rfl
 ·intro i hi
  have hr:=runFold_ok hok picks i hi
  have hstep:=fun h=>run_fold p picks i h (s,[])
  have hfin :¬(i:Int)<picks.length→(picks.take i).foldl (runStep p) (s,[])=runF p s picks:=fun h=>by rw [List.take_of_length_le (by omega)]; rfl
  generalize (picks.take i).foldl (runStep p) (s,[])=st at hr hstep hfin
  obtain ⟨hso,hlen⟩:=hr
  have hss:=small_of hso
  have htr:=notesOk_len hso
  simp only [go_sem,seval]
  refine branch_intro (fun hc=>?_) (fun hc=>?_)
  ·simp only [decide_eq_true_eq] at hc
   have hl2:i<picks.length:=by omega
   simp only [go_sem,seval,ints_getD picks i hl2]
   repeat refine K ?_
   refine CA [(0,16)] (sourceStep_ok p st.1 (picks.getD i 0) hp hss hso htr) ?_
   try simp only [go_sem,seval]
   repeat refine K ?_
   try simp only [go_sem,seval,wrap_succ (i:=i) (by omega),hlen]
   repeat refine K ?_
   refine back_intro (i+1) ?_ hl2 (by omega)
   simp only [hstep hl2,runStep]
   refine Sub.shape [] (fun n=>if n=17 then 19 else n) (by omega) ?_ ?_ ?_ ?_<;>simp [ints_rep]
   all_goals exact .inl (ints_snoc _ _)
  ·simp only [decide_eq_false_iff_not] at hc
   have hf:=hfin hc
   simp only [go_sem,seval]
   repeat refine K ?_
   apply fin_tup (by simp)
   ·exact Sub.refl _
   ·simp [-List.drop_one,-gD,sourceRun,hok,hl',hlen,←hf]<;>(first | rfl | exact ⟨rfl,rfl⟩ | exact ⟨rfl,rfl,rfl⟩ | skip)
def m410:MFn:=⟨45,[.t 4],kr [xb 2 0,xF 4] (kr [xm 13 2 2,xv 14 1,xc2 15 407 (.t 13) (.t 14),xv 12 15,xX 16 12 0,xX 17 12 1,xX 18 12 2,xo 6 (.alloc [.nil,.nil,.nil,.nil]),xv 5 16,xS 4 6 17,xv 7 18] (.seq (kr [xv 19 7,xN 20 19] (kF 20 [xF 4])) (kr [xm 22 2 2,xv 23 5,xc2 24 430 (.t 22) (.t 23),xv 21 24,xX 25 21 0,xX 26 21 1,xo 8 (.alloc [.nil,.nil,.nil]),xS 3 8 25,xv 9 26] (.seq (kr [xv 27 9,xe 28 27,xI 29 0] (.blk 0 (.loop (kr [bT 30 .lss 29 28] (.seq (kX 30 0) (.seq (.blk 1 (kr [xD 31 1 27 29,xl 32 31,xv 11 32] (kr [xv 33 11,bI 34 .neq 33 0,xv 35 34,yv 36 11 35,yI 37 .neq 36 4 35,xP 38 35 37] (kF 38 [xF 4])))) (xr [bI 39 .add 29 1,xv 29 39]))))))) (kR [xa 40 2 8,xl 41 40,xa 42 3 6,xl 43 42,xc2 44 419 (.t 41) (.t 43),xv 4 44])))))⟩
def m430:MFn:=⟨19,[.cell 4 3 true,.t 5],kr [xb 2 0,xo 4 (.alloc [.nil,.nil,.nil]),xo 5 (.mv (.c (.nil)))] (kr [xm 9 2 2,xc1 10 24 (.t 9),xv 8 10,xX 11 8 0,xX 12 8 1,xo 6 (.alloc [.nil,.nil,.nil]),xS 3 6 11,xv 7 12] (kR [xm 13 2 2,xm 14 3 6,xv 15 1,xc3 16 25 (.t 13) (.t 14) (.t 15),xX 17 16 0,xX 18 16 1,xS 3 4 17,xv 5 18]))⟩
theorem jsrc_small (p:Prog) (o:List Int) (h:progOk p=true):Small (sourceNew p).1:=small_of (sourceNew_ok h)
theorem runF_len (p:Prog) :∀(l:List Int) (s:Source) (c:List Int),(l.foldl (runStep p) (s,c)).2.length=c.length+l.length
 | [],s,c=>by simp
 | x::l,s,c=>by
  simp only [List.foldl_cons,runStep]
  rw [runF_len p l]
  simp
  omega
theorem runF_right (p:Prog) :∀(l:List Int) (s:Source) (c:List Int),sourceOk p s=true→sourceOk p (l.foldl (runStep p) (s,c)).1=true
 | [],s,c,h=>h
 | x::l,s,c,h=>by
  simp only [List.foldl_cons,runStep]
  exact runF_right p l _ _ (sourceStep_keeps x h)
theorem jsrc_right {p:Prog} {o:List Int} (h:progOk p=true):sourceOk p (jsrc p o).1=true:=by
 unfold jsrc sourceRun
 split
 ·exact runF_right p o _ _ (sourceNew_ok h)
 ·exact sourceNew_ok h
theorem jsrc_len {p:Prog} {o:List Int} (h:progOk p=true) (hl:o.length≤4000):(jsrc p o).2.length=o.length:=by
 unfold jsrc sourceRun
 rw [sourceNew_ok h,decide_eq_true (show (o.length:Int)≤4000 by omega)]
 show (o.foldl (runStep p) ((sourceNew p).1,[])).2.length=_
 rw [runF_len]
 simp
theorem jdone_step {c:List Int} {i:Nat} (h:jdone (c.take i)=true) (hi:i<c.length) (hp:c.getD i 0=0∨c.getD i 0=4):jdone (c.take (i+1))=true:=by
 unfold jdone at *
 exact all_step (d:=0) h hi (by rcases hp with h | h<;>rw [h]<;>rfl)
theorem jdone_stop {c:List Int} {i:Nat} (hi:i<c.length) (h0 :¬c.getD i 0=0) (h4 :¬c.getD i 0=4):jdone c=false:=by
 unfold jdone
 exact all_stop (d:=0) hi (by rw [decide_eq_false h0,decide_eq_false h4]; rfl)
theorem implOrdered_ok (p:Prog) (o:List Int) (h:progOk p=true) (hl:o.length<2^40):CallOk Tryz.prog num 430 [.agg (progC .bw p),.sl .bw 1 (ints o)] [] (.tup [.agg (sourceC .own (jsrc p o).1),.sl .own 1 (ints (jsrc p o).2)]):=by
 have hpp:=smallP_of h
 refine EN m430 Tryz.func81 ?_
 unfold m430
 simp only [go_sem,seval]
 repeat refine K ?_
 refine CA [] (implSourceNew_ok p hpp.caps hpp.bods hpp.body') ?_
 try simp only [go_sem,seval]
 repeat refine K ?_
 try simp only [go_sem,seval]
 repeat refine K ?_
 refine CA [] (implSourceRun_ok p (sourceNew p).1 o hpp (jsrc_small p o h) hl) ?_
 try simp only [go_sem,seval]
 repeat refine K ?_
 try simp only [go_sem,seval]
 repeat refine K ?_
 apply fin_tup (by simp)
 ·exact Sub.refl _
 ·simp [-List.drop_one,-gD,jsrc,sourceC]<;>(first | rfl | exact ⟨rfl,rfl⟩ | exact ⟨rfl,rfl,rfl⟩ | skip)
def judgeTrace (p:Prog) (l:List Pick):Bool:=(witness p l).2.2&&jdone (jsrc p (witness p l).1).2&&decide ((witness p l).2.1.tr=(jsrc p (witness p l).1).1.tr)
theorem implJudgeTrace_ok (p:Prog) (l:List Pick) (hp:SmallP p) (hl:l.length<2^40) (hx :∀x∈l,pkOk x):CallOk Tryz.prog num 410 [.agg (progC .bw p),.sl .bw 2 (pcks l)] [] (.bool (judgeTrace p l)):=by
 refine EN m410 Tryz.func48 ?_
 unfold m410
 have hw:=implWitness_ok p l hp hl hx
 have hz:=(witness_z p l).1
 have hr:=@witness_right p l
 have hm:=witness_sm p l
 unfold judgeTrace
 generalize witness p l=w at *
 obtain ⟨o,m,b⟩:=w
 simp only at hz hr hm⊢
 simp only [go_sem,seval]
 repeat refine K ?_
 refine CA [] (hw) ?_
 try simp only [go_sem,seval]
 repeat refine K ?_
 cases b
 ·try simp only [go_sem,seval]
  repeat refine K ?_
  refine fz ?_; simp [FinS,nilL,nilV,oneOr,-List.drop_one]
 obtain ⟨h1,_⟩:=hr rfl
 have hj:=implOrdered_ok p o h1 (by omega)
 have htr:=hm.tr
 have hsr:=(small_of (jsrc_right (o:=o) h1)).tr
 have hln:=jsrc_len (o:=o) h1 hz
 generalize jsrc p o=q at *
 obtain ⟨s,c⟩:=q
 simp only at hj hsr hln⊢
 try simp only [go_sem,seval]
 repeat refine K ?_
 refine CA [] (hj) ?_
 try simp only [go_sem,seval]
 repeat refine K ?_
 refine loop_intro (ι:=Nat) (fun i=>.mk [(6,.ptr 16 0 0),(8,.ptr 21 0 0),(27,.ns 20 0 c.length),(28,.int .i64 c.length),(29,.int .i64 i)] [(16,4,[machineC .own m]),(21,3,[sourceC .own s]),(20,1,ints c)] 22) (fun i=>i≤c.length∧jdone (c.take i)=true) (fun i=>c.length-i) 0 (by simp [jdone]) ?_ ?_
 ·refine Sub.trans (Sub.fold1 21 0 17 rfl (by simp [-gD]<;>omega) rfl (by decide) (by decide) rfl) ?_
  simp only [fS,fS2,qA,qC]
  refine Sub.trans (Sub.fold1 21 1 18 rfl (by simp [-gD]<;>omega) rfl (by decide) (by decide) rfl) ?_
  simp only [fS,fS2,qA,qC]
  refine Sub.trans (Sub.fold1 21 2 19 rfl (by simp [-gD]<;>omega) rfl (by decide) (by decide) rfl) ?_
  simp only [fS,fS2,qA,qC]
  refine Sub.trans (Sub.fold1 16 0 12 rfl (by simp [-gD]<;>omega) rfl (by decide) (by decide) rfl) ?_
  simp only [fS,fS2,qA,qC]
  refine Sub.trans (Sub.fold1 16 1 13 rfl (by simp [-gD]<;>omega) rfl (by decide) (by decide) rfl) ?_
  simp only [fS,fS2,qA,qC]
  refine Sub.trans (Sub.fold1 16 2 14 rfl (by simp [-gD]<;>omega) rfl (by decide) (by decide) rfl) ?_
  simp only [fS,fS2,qA,qC]
  refine Sub.trans (Sub.fold1 16 3 15 rfl (by simp [-gD]<;>omega) rfl (by decide) (by decide) rfl) ?_
  simp only [fS,fS2,qA,qC]
  refine Sub.shape [] id (by omega) ?_ ?_ ?_ ?_<;>simp [ints_rep]
 ·rintro i ⟨hi,hq⟩
  simp only [go_sem,seval]
  repeat refine K ?_
  refine branch_intro (fun hc=>?_) (fun hc=>?_)
  ·simp only [decide_eq_true_eq] at hc
   have hil:i<c.length:=by omega
   simp only [go_sem,seval,ints_getD c i hil]
   repeat refine K ?_
   by_cases h0:c.getD i 0=0
   ·try simp only [go_sem,seval,h0,wrap_succ (i:=i) (by omega)]
    repeat refine K ?_
    refine back_intro (i+1) (Sub.shape [] id (by omega) ?_ ?_ ?_ ?_) ?_ ?_
    any_goals (first | omega | (simp [ints_rep]; done))
    exact ⟨hil,jdone_step hq hil (.inl h0)⟩
   by_cases h4:c.getD i 0=4
   ·try simp only [go_sem,seval,h0,h4,ints_getD c i hil,wrap_succ (i:=i) (by omega)]
    repeat refine K ?_
    refine back_intro (i+1) (Sub.shape [] id (by omega) ?_ ?_ ?_ ?_) ?_ ?_
    any_goals (first | omega | (simp [ints_rep]; done))
    exact ⟨hil,jdone_step hq hil (.inr h4)⟩
   have hjf:=jdone_stop hil h0 h4
   try simp only [go_sem,seval,h0,h4,ints_getD c i hil]
   repeat refine K ?_
   refine fz ?_; simp [FinS,nilL,nilV,oneOr,-List.drop_one]
   all_goals simp [hjf]
  ·simp only [decide_eq_false_iff_not] at hc
   have he:i=c.length:=by omega
   subst he
   rw [List.take_length] at hq
   simp only [go_sem,seval]
   repeat refine K ?_
   refine CA [] (notesEqual_ok s.tr m.tr (by omega)) ?_
   try simp only [go_sem,seval]
   repeat refine K ?_
   try simp only [go_sem,seval]
   repeat refine K ?_
   refine fz ?_; simp [FinS,nilL,nilV,oneOr,-List.drop_one]
   rw [hq]
   simp [eq_comm]
theorem judgeTrace_is (p:Prog) (l:List Pick):judgeTrace p l=(witness p l).2.2:=by
 unfold judgeTrace
 cases h:(witness p l).2.2
 ·rfl
 ·obtain ⟨h1,h2,_⟩:=wit_inv h
  rw [h2,decide_eq_true h1.tr]
  rfl
theorem jdone_at {c:List Int} (h:jdone c=true) {i:Nat} (hi:i<c.length):c.getD i 0=0∨c.getD i 0=4:=by
 unfold jdone at h
 have:=List.all_eq_true.1 h _ (getD_mem c i 0 hi)
 simpa [-List.getD_eq_getElem?_getD] using this
end Go.Sep
