/- Contracts of functions. -/
import Derived.Test.YtjbknbgdfhihcaaGreatJxx8
namespace Go.Sep
set_option maxHeartbeats 16000000
open Go.Proofs
set_option linter.unusedSimpArgs false
set_option linter.unusedVariables false
set_option maxRecDepth 100000
open Nat renaming reduceAdd → qA, reduceMul → qB, reduceEqDiff → qC, reduceBEq → qD
open Int renaming reduceToNat → qE, reduceEq → qF, reduceLT → qG, reduceLE → qH
open List renaming getD_eq_getElem?_getD → gD
def m409:MFn:=⟨33,[.t 4],kr [xb 2 0,xF 4] (kr [xm 11 2 2,xv 12 1,xc2 13 406 (.t 11) (.t 12),xv 10 13,xX 14 10 0,xX 15 10 1,xX 16 10 2,xo 6 (.alloc [.nil,.nil,.nil,.nil]),xv 5 14,xS 4 6 15,xv 7 16] (.seq (kr [xv 17 7,xN 18 17] (kF 18 [xF 4])) (kr [xm 20 2 2,xv 21 5,xc2 22 429 (.t 20) (.t 21),xv 19 22,xX 23 19 0,xX 24 19 1,xo 8 (.alloc [.nil,.nil,.nil]),xS 3 8 23,xv 9 24] (kR [xv 25 9,xv 26 25,ya 27 3 6 26,yl 28 1 27 26,ya 29 2 8 26,yl 30 1 29 26,xg 31 (.call 417 [false,false] [.t 28,.t 30]) 26 true,xP 32 26 31,xv 4 32]))))⟩
def m410:MFn:=⟨45,[.t 4],kr [xb 2 0,xF 4] (kr [xm 13 2 2,xv 14 1,xc2 15 407 (.t 13) (.t 14),xv 12 15,xX 16 12 0,xX 17 12 1,xX 18 12 2,xo 6 (.alloc [.nil,.nil,.nil,.nil]),xv 5 16,xS 4 6 17,xv 7 18] (.seq (kr [xv 19 7,xN 20 19] (kF 20 [xF 4])) (kr [xm 22 2 2,xv 23 5,xc2 24 430 (.t 22) (.t 23),xv 21 24,xX 25 21 0,xX 26 21 1,xo 8 (.alloc [.nil,.nil,.nil]),xS 3 8 25,xv 9 26] (.seq (kr [xv 27 9,xe 28 27,xI 29 0] (.blk 0 (.loop (kr [bT 30 .lss 29 28] (.seq (kX 30 0) (.seq (.blk 1 (kr [xD 31 1 27 29,xl 32 31,xv 11 32] (kr [xv 33 11,bI 34 .neq 33 0,xv 35 34,yv 36 11 35,yI 37 .neq 36 4 35,xP 38 35 37] (kF 38 [xF 4])))) (xr [bI 39 .add 29 1,xv 29 39]))))))) (kR [xa 40 2 8,xl 41 40,xa 42 3 6,xl 43 42,xc2 44 419 (.t 41) (.t 43),xv 4 44])))))⟩
def judgeTrace (p:Prog) (l:List Pick):Bool:=(witness p l).2.2&&jdone (jsrc p (witness p l).1).2&&decide ((witness p l).2.1.tr=(jsrc p (witness p l).1).1.tr)
theorem specJudgeTrace_ok (p:Prog) (l:List Pick) (hp:SmallP p) (hl:l.length<2^40) (hx :∀x∈l,pkOk x):CallOk Tryz.prog num 409 [.agg (progC .bw p),.sl .bw 2 (pcks l)] [] (.bool (judgeTrace p l)):=by
 refine EN m409 Tryz.func45 ?_
 unfold m409
 have hw:=specWitness_ok p l hp hl hx
 have hz:=(witness_z p l).1
 have hr:=@witness_right p l
 have hm:=witness_sm p l
 unfold judgeTrace
 generalize witness p l=w at *
 obtain ⟨o,m,b⟩:=w
 simp only at hz hr hm⊢
 simp only [go_sem,seval]
 repeat refine K ?_
 refine CA [] (hw) ?_
 try simp only [go_sem,seval]
 repeat refine K ?_
 cases b
 ·try simp only [go_sem,seval]
  repeat refine K ?_
  refine fz ?_; simp [FinS,nilL,nilV,oneOr,-List.drop_one]
 obtain ⟨h1,_⟩:=hr rfl
 have hj:=specL14Source_ok p o h1 (by omega)
 have htr:=hm.tr
 generalize jsrc p o=q at *
 obtain ⟨s,c⟩:=q
 simp only at hj⊢
 try simp only [go_sem,seval]
 repeat refine K ?_
 refine CA [] (hj) ?_
 try simp only [go_sem,seval]
 repeat refine K ?_
 cases hd:jdone c
 ·try simp only [go_sem,seval,hd]
  repeat refine K ?_
  refine fz ?_; simp [FinS,nilL,nilV,oneOr,-List.drop_one]
 try simp only [go_sem,seval,hd]
 repeat refine K ?_
 refine CA [] (l13Notes_ok m.tr s.tr (by omega)) ?_
 try simp only [go_sem,seval]
 repeat refine K ?_
 try simp only [go_sem,seval]
 repeat refine K ?_
 refine fz ?_; simp [FinS,nilL,nilV,oneOr,-List.drop_one]
theorem implJudgeTrace_ok (p:Prog) (l:List Pick) (hp:SmallP p) (hl:l.length<2^40) (hx :∀x∈l,pkOk x):CallOk Tryz.prog num 410 [.agg (progC .bw p),.sl .bw 2 (pcks l)] [] (.bool (judgeTrace p l)):=by
 refine EN m410 Tryz.func46 ?_
 unfold m410
 have hw:=implWitness_ok p l hp hl hx
 have hz:=(witness_z p l).1
 have hr:=@witness_right p l
 have hm:=witness_sm p l
 unfold judgeTrace
 generalize witness p l=w at *
 obtain ⟨o,m,b⟩:=w
 simp only at hz hr hm⊢
 simp only [go_sem,seval]
 repeat refine K ?_
 refine CA [] (hw) ?_
 try simp only [go_sem,seval]
 repeat refine K ?_
 cases b
 ·try simp only [go_sem,seval]
  repeat refine K ?_
  refine fz ?_; simp [FinS,nilL,nilV,oneOr,-List.drop_one]
 obtain ⟨h1,_⟩:=hr rfl
 have hj:=implOrdered_ok p o h1 (by omega)
 have htr:=hm.tr
 have hsr:=(small_of (jsrc_right (o:=o) h1)).tr
 have hln:=jsrc_len (o:=o) h1 hz
 generalize jsrc p o=q at *
 obtain ⟨s,c⟩:=q
 simp only at hj hsr hln⊢
 try simp only [go_sem,seval]
 repeat refine K ?_
 refine CA [] (hj) ?_
 try simp only [go_sem,seval]
 repeat refine K ?_
 refine qA8 (ι:=Nat) (fun i=>.mk [(6,.ptr 16 0 0),(8,.ptr 21 0 0),(27,.ns 20 0 c.length),(28,.int .i64 c.length),(29,.int .i64 i)] [(16,4,[machineC .own m]),(21,3,[sourceC .own s]),(20,1,ints c)] 22) (fun i=>i≤c.length∧jdone (c.take i)=true) (fun i=>c.length-i) 0 (by simp [jdone]) ?_ ?_
 ·refine Sub.trans (Sub.fold1 21 0 17 rfl (by simp [-gD]<;>omega) rfl (by decide) (by decide) rfl) ?_
  simp only [fS,fS2,qA,qC]
  refine Sub.trans (Sub.fold1 21 1 18 rfl (by simp [-gD]<;>omega) rfl (by decide) (by decide) rfl) ?_
  simp only [fS,fS2,qA,qC]
  refine Sub.trans (Sub.fold1 21 2 19 rfl (by simp [-gD]<;>omega) rfl (by decide) (by decide) rfl) ?_
  simp only [fS,fS2,qA,qC]
  refine Sub.trans (Sub.fold1 16 0 12 rfl (by simp [-gD]<;>omega) rfl (by decide) (by decide) rfl) ?_
  simp only [fS,fS2,qA,qC]
  refine Sub.trans (Sub.fold1 16 1 13 rfl (by simp [-gD]<;>omega) rfl (by decide) (by decide) rfl) ?_
  simp only [fS,fS2,qA,qC]
  refine Sub.trans (Sub.fold1 16 2 14 rfl (by simp [-gD]<;>omega) rfl (by decide) (by decide) rfl) ?_
  simp only [fS,fS2,qA,qC]
  refine Sub.trans (Sub.fold1 16 3 15 rfl (by simp [-gD]<;>omega) rfl (by decide) (by decide) rfl) ?_
  simp only [fS,fS2,qA,qC]
  refine Sub.shape [] id (by omega) ?_ ?_ ?_ ?_<;>simp [qA2]
 ·rintro i ⟨hi,hq⟩
  simp only [go_sem,seval]
  repeat refine K ?_
  refine qA1 (fun hc=>?_) (fun hc=>?_)
  ·simp only [decide_eq_true_eq] at hc
   have hil:i<c.length:=by omega
   simp only [go_sem,seval,qA0 c i hil]
   repeat refine K ?_
   by_cases h0:c.getD i 0=0
   ·try simp only [go_sem,seval,h0,qA7 (i:=i) (by omega)]
    repeat refine K ?_
    refine qA6 (i+1) (Sub.shape [] id (by omega) ?_ ?_ ?_ ?_) ?_ ?_
    any_goals (first | omega | (simp [qA2]; done))
    exact ⟨hil,jdone_step hq hil (.inl h0)⟩
   by_cases h4:c.getD i 0=4
   ·try simp only [go_sem,seval,h0,h4,qA0 c i hil,qA7 (i:=i) (by omega)]
    repeat refine K ?_
    refine qA6 (i+1) (Sub.shape [] id (by omega) ?_ ?_ ?_ ?_) ?_ ?_
    any_goals (first | omega | (simp [qA2]; done))
    exact ⟨hil,jdone_step hq hil (.inr h4)⟩
   have hjf:=jdone_stop hil h0 h4
   try simp only [go_sem,seval,h0,h4,qA0 c i hil]
   repeat refine K ?_
   refine fz ?_; simp [FinS,nilL,nilV,oneOr,-List.drop_one]
   all_goals simp [hjf]
  ·simp only [decide_eq_false_iff_not] at hc
   have he:i=c.length:=by omega
   subst he
   rw [List.take_length] at hq
   simp only [go_sem,seval]
   repeat refine K ?_
   refine CA [] (notesEqual_ok s.tr m.tr (by omega)) ?_
   try simp only [go_sem,seval]
   repeat refine K ?_
   try simp only [go_sem,seval]
   repeat refine K ?_
   refine fz ?_; simp [FinS,nilL,nilV,oneOr,-List.drop_one]
   rw [hq]
   simp [eq_comm]
def m408:MFn:=⟨45,[.t 4],kr [xb 2 0,xF 4] (kr [xI 5 1048576] (kr [xm 10 2 2,xv 11 5,xc2 12 27 (.t 10) (.t 11),xv 5 12] (.seq (kr [xv 13 5,bI 14 .lss 13 0] (kF 14 [xT 4])) (kr [xv 15 1,xv 16 5,xc2 17 384 (.t 15) (.t 16),xv 5 17] (.seq (kr [xv 18 5,bI 19 .lss 18 0] (kF 19 [xT 4])) (kr [xm 20 2 2,xc1 21 28 (.t 20),xv 22 1,xc1 23 385 (.t 22),xc2 24 409 (.t 21) (.t 23),xv 6 24] (kr [xm 25 2 2,xc1 26 28 (.t 25),xo 7 (.alloc [.nil,.nil]),xS 2 7 26] (kr [xv 27 1,xc1 28 385 (.t 27),xv 8 28] (kr [xm 29 2 7,xv 30 8,xc2 31 410 (.t 29) (.t 30),xv 9 31] (.seq (kr [xv 32 9,xv 33 6,xo 34 (.eqB true (.t 32) (.t 33))] (kF 34 [xF 4])) (.seq (.seq (.dreg (.take 0 (xm 35 2 7) (.only 1 [] (xm 36 2 2) (.only 2 [] (xc1 37 28 (.t 36)) (.only 3 [0] (xc2 38 30 (.t 35) (.t 37)) (.only 4 [3,0] (xN 39 38) (.done))))))) (kF 39 [xF 4])) (.seq (kr [xv 40 8,xv 41 1,xc1 42 385 (.t 41),xc2 43 388 (.t 40) (.t 42),xN 44 43] (kF 44 [xF 4])) (kR [xT 4])))))))))))))⟩
theorem exactJudgeTrace_ok (p:Prog) (l:List Pick) (h1:p.caps.length<2^63∧p.bods.length<2^63∧∀b∈p.bods,b.length<2^63) (hl0:l.length<2^63∧∀x∈l,pkOk x):CallOk Tryz.prog num 408 [.agg (progC .bw p),.sl .bw 2 (pcks l)] [] (.bool true):=by
 refine EN m408 Tryz.func10 ?_
 unfold m408
 simp only [go_sem,seval]
 repeat refine K ?_
 refine CA [] (szProg_ok p 1048576 h1.1 h1.2.1 h1.2.2 (by omega) (by omega)) ?_
 try simp only [go_sem,seval]
 repeat refine K ?_
 rw [szProg_eq p _ (by omega)]
 have l1:=szL_le (k:=wProg p) (n:=1048576) (by omega)
 refine qA1 (fun hc=>?_) (fun hc=>?_)
 ·simp only [go_sem,seval]
  repeat refine K ?_
  refine fz ?_; simp [FinS,nilL,nilV,oneOr,-List.drop_one]
 simp only [decide_eq_false_iff_not] at hc
 have hp:=prgSz_of (p:=p) (n:=1048576) (by have:=szL_ge hc (by omega); omega)
 generalize szL (wProg p) 1048576=n2 at *
 simp only [go_sem,seval]
 repeat refine K ?_
 refine CA [] (szPickS_ok l n2 hl0.1 (by omega) (by omega)) ?_
 try simp only [go_sem,seval]
 repeat refine K ?_
 refine qA1 (fun hc3=>?_) (fun hc3=>?_)
 ·simp only [go_sem,seval]
  repeat refine K ?_
  refine fz ?_; simp [FinS,nilL,nilV,oneOr,-List.drop_one]
 simp only [decide_eq_false_iff_not] at hc3
 have hl:l.length≤1048576:=by have:=szL_ge hc3 (by omega); omega
 clear hc hc3 h1 l1
 obtain ⟨p1,p2,p3,p4⟩:=hp
 have q1 :∀b∈p.bods,40*b.length≤2^47:=fun b hb=>by have:=p3 b hb; omega
 have q2 :∀b∈p.bods,b.length≤2^47:=fun b hb=>by have:=p3 b hb; omega
 have hpp:SmallP p:=⟨by omega,by omega,fun b hb=>by have:=p3 b hb; omega⟩
 have tp:=toProg_ok p (by omega) (by omega) q1
 have tk:=toPickS_ok l (by omega)
 have cs:=specJudgeTrace_ok p l hpp (by omega) hl0.2
 have ci:=implJudgeTrace_ok p l hpp (by omega) hl0.2
 generalize judgeTrace p l=w at *
 have ep:=eqProg_ok p p (by omega) (by omega) q2
 have ek:=eqPickS_ok l l (by omega)
 have eb:(w==w)=true:=by simp
 simp only [go_sem,seval]
 repeat refine K ?_
 refine CA [] (tp) ?_
 try simp only [go_sem,seval]
 repeat refine K ?_
 try simp only [go_sem,seval]
 repeat refine K ?_
 refine CA [] (tk) ?_
 try simp only [go_sem,seval]
 repeat refine K ?_
 try simp only [go_sem,seval]
 repeat refine K ?_
 refine CA [] (cs) ?_
 try simp only [go_sem,seval]
 repeat refine K ?_
 try simp only [go_sem,seval]
 repeat refine K ?_
 refine CA [] (tp) ?_
 try simp only [go_sem,seval]
 repeat refine K ?_
 try simp only [go_sem,seval]
 repeat refine K ?_
 refine CA [] (tk) ?_
 try simp only [go_sem,seval]
 repeat refine K ?_
 try simp only [go_sem,seval]
 repeat refine K ?_
 refine CA [] (ci) ?_
 try simp only [go_sem,seval]
 repeat refine K ?_
 try simp only [go_sem,seval,eb]
 repeat refine K ?_
 refine DA [] (tp) ?_
 try simp only [go_sem,seval]
 repeat refine K ?_
 refine DA [] (ep) ?_
 try simp only [go_sem,seval]
 repeat refine K ?_
 try simp only [go_sem,seval]
 repeat refine K ?_
 refine CA [] (tk) ?_
 try simp only [go_sem,seval]
 repeat refine K ?_
 refine CA [] (ek) ?_
 try simp only [go_sem,seval]
 repeat refine K ?_
 try simp only [go_sem,seval]
 repeat refine K ?_
 refine fz ?_; simp [FinS,nilL,nilV,oneOr,-List.drop_one]
end Go.Sep
