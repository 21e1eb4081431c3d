/- Contracts of functions. -/
import Derived.Test.YtjbknbgdfhihcaaGreatJxx11
import Derived.Test.YtjbknbgdfhihcaaGreatJxx8
namespace Go.Sep
set_option maxHeartbeats 16000000
open Go.Proofs
set_option linter.unusedSimpArgs false
set_option linter.unusedVariables false
set_option maxRecDepth 100000
def m412:MFn:=⟨29,[.t 4],kr [xb 2 0,xF 4] (kr [xm 11 2 2,xv 12 1,xc2 13 406 (.t 11) (.t 12),xv 10 13,xX 14 10 0,xX 15 10 1,xX 16 10 2,xo 6 (.alloc [.nil,.nil,.nil,.nil]),xv 5 14,xS 4 6 15,xv 7 16] (.seq (kr [xv 17 7,xN 18 17] (kF 18 [xF 4])) (kr [xm 20 2 2,xv 21 5,xc2 22 429 (.t 20) (.t 21),xv 19 22,xX 23 19 0,xX 24 19 1,xo 8 (.alloc [.nil,.nil,.nil]),xS 3 8 23,xv 9 24] (kR [xm 25 2 2,xm 26 4 6,xm 27 3 8,xc3 28 394 (.t 25) (.t 26) (.t 27),xv 4 28]))))⟩
def m413:MFn:=⟨29,[.t 4],kr [xb 2 0,xF 4] (kr [xm 11 2 2,xv 12 1,xc2 13 407 (.t 11) (.t 12),xv 10 13,xX 14 10 0,xX 15 10 1,xX 16 10 2,xo 6 (.alloc [.nil,.nil,.nil,.nil]),xv 5 14,xS 4 6 15,xv 7 16] (.seq (kr [xv 17 7,xN 18 17] (kF 18 [xF 4])) (kr [xm 20 2 2,xv 21 5,xc2 22 430 (.t 20) (.t 21),xv 19 22,xX 23 19 0,xX 24 19 1,xo 8 (.alloc [.nil,.nil,.nil]),xS 3 8 23,xv 9 24] (kR [xm 25 2 2,xm 26 4 6,xm 27 3 8,xc3 28 395 (.t 25) (.t 26) (.t 27),xv 4 28]))))⟩
def judgeSame (p:Prog) (l:List Pick):Bool:=(witness p l).2.2&&same p (witness p l).2.1 (jsrc p (witness p l).1).1
theorem specJudgeSame_ok (p:Prog) (l:List Pick) (hp:SmallP p) (hl:l.length<2^40) (hx :∀x∈l,pkOk x):CallOk Tryz.prog num 412 [.agg (progC .bw p),.sl .bw 2 (pcks l)] [] (.bool (judgeSame p l)):=by
 refine EN m412 Tryz.func47 ?_
 unfold m412
 have hw:=specWitness_ok p l hp hl hx
 have hz:=(witness_z p l).1
 have hr:=@witness_right p l
 have hm:=witness_sm p l
 unfold judgeSame
 generalize witness p l=w at *
 obtain ⟨o,m,b⟩:=w
 simp only at hz hr hm⊢
 simp only [go_sem,seval]
 repeat refine K ?_
 refine CA [] (hw) ?_
 try simp only [go_sem,seval]
 repeat refine K ?_
 cases b
 ·try simp only [go_sem,seval]
  repeat refine K ?_
  refine fz ?_; simp [FinS,nilL,nilV,oneOr,-List.drop_one]
 obtain ⟨h1,_⟩:=hr rfl
 have hj:=specL14Source_ok p o h1 (by omega)
 have hsr:=small_of (jsrc_right (o:=o) h1)
 have hss:=specSame_ok p m (jsrc p o).1 hp hm hsr
 generalize jsrc p o=q at *
 obtain ⟨s,c⟩:=q
 simp only at hj hss⊢
 try simp only [go_sem,seval]
 repeat refine K ?_
 refine CA [] (hj) ?_
 try simp only [go_sem,seval]
 repeat refine K ?_
 refine CA [] (hss) ?_
 try simp only [go_sem,seval]
 repeat refine K ?_
 try simp only [go_sem,seval]
 repeat refine K ?_
 refine fz ?_; simp [FinS,nilL,nilV,oneOr,-List.drop_one]
theorem implJudgeSame_ok (p:Prog) (l:List Pick) (hp:SmallP p) (hl:l.length<2^40) (hx :∀x∈l,pkOk x):CallOk Tryz.prog num 413 [.agg (progC .bw p),.sl .bw 2 (pcks l)] [] (.bool (judgeSame p l)):=by
 refine EN m413 Tryz.func48 ?_
 unfold m413
 have hw:=implWitness_ok p l hp hl hx
 have hz:=(witness_z p l).1
 have hr:=@witness_right p l
 have hm:=witness_sm p l
 unfold judgeSame
 generalize witness p l=w at *
 obtain ⟨o,m,b⟩:=w
 simp only at hz hr hm⊢
 simp only [go_sem,seval]
 repeat refine K ?_
 refine CA [] (hw) ?_
 try simp only [go_sem,seval]
 repeat refine K ?_
 cases b
 ·try simp only [go_sem,seval]
  repeat refine K ?_
  refine fz ?_; simp [FinS,nilL,nilV,oneOr,-List.drop_one]
 obtain ⟨h1,_⟩:=hr rfl
 have hj:=implOrdered_ok p o h1 (by omega)
 have hsr:=small_of (jsrc_right (o:=o) h1)
 have hss:=implSame_ok p m (jsrc p o).1 hp hm hsr
 generalize jsrc p o=q at *
 obtain ⟨s,c⟩:=q
 simp only at hj hss⊢
 try simp only [go_sem,seval]
 repeat refine K ?_
 refine CA [] (hj) ?_
 try simp only [go_sem,seval]
 repeat refine K ?_
 refine CA [] (hss) ?_
 try simp only [go_sem,seval]
 repeat refine K ?_
 try simp only [go_sem,seval]
 repeat refine K ?_
 refine fz ?_; simp [FinS,nilL,nilV,oneOr,-List.drop_one]
def m411:MFn:=⟨45,[.t 4],kr [xb 2 0,xF 4] (kr [xI 5 1048576] (kr [xm 10 2 2,xv 11 5,xc2 12 27 (.t 10) (.t 11),xv 5 12] (.seq (kr [xv 13 5,bI 14 .lss 13 0] (kF 14 [xT 4])) (kr [xv 15 1,xv 16 5,xc2 17 384 (.t 15) (.t 16),xv 5 17] (.seq (kr [xv 18 5,bI 19 .lss 18 0] (kF 19 [xT 4])) (kr [xm 20 2 2,xc1 21 28 (.t 20),xv 22 1,xc1 23 385 (.t 22),xc2 24 412 (.t 21) (.t 23),xv 6 24] (kr [xm 25 2 2,xc1 26 28 (.t 25),xo 7 (.alloc [.nil,.nil]),xS 2 7 26] (kr [xv 27 1,xc1 28 385 (.t 27),xv 8 28] (kr [xm 29 2 7,xv 30 8,xc2 31 413 (.t 29) (.t 30),xv 9 31] (.seq (kr [xv 32 9,xv 33 6,xo 34 (.eqB true (.t 32) (.t 33))] (kF 34 [xF 4])) (.seq (.seq (.dreg (.take 0 (xm 35 2 7) (.only 1 [] (xm 36 2 2) (.only 2 [] (xc1 37 28 (.t 36)) (.only 3 [0] (xc2 38 30 (.t 35) (.t 37)) (.only 4 [3,0] (xN 39 38) (.done))))))) (kF 39 [xF 4])) (.seq (kr [xv 40 8,xv 41 1,xc1 42 385 (.t 41),xc2 43 388 (.t 40) (.t 42),xN 44 43] (kF 44 [xF 4])) (kR [xT 4])))))))))))))⟩
theorem exactJudgeSame_ok (p:Prog) (l:List Pick) (h1:p.caps.length<2^63∧p.bods.length<2^63∧∀b∈p.bods,b.length<2^63) (hl0:l.length<2^63∧∀x∈l,pkOk x):CallOk Tryz.prog num 411 [.agg (progC .bw p),.sl .bw 2 (pcks l)] [] (.bool true):=by
 refine EN m411 Tryz.func11 ?_
 unfold m411
 simp only [go_sem,seval]
 repeat refine K ?_
 refine CA [] (szProg_ok p 1048576 h1.1 h1.2.1 h1.2.2 (by omega) (by omega)) ?_
 try simp only [go_sem,seval]
 repeat refine K ?_
 rw [szProg_eq p _ (by omega)]
 have l1:=szL_le (k:=wProg p) (n:=1048576) (by omega)
 refine qA1 (fun hc=>?_) (fun hc=>?_)
 ·simp only [go_sem,seval]
  repeat refine K ?_
  refine fz ?_; simp [FinS,nilL,nilV,oneOr,-List.drop_one]
 simp only [decide_eq_false_iff_not] at hc
 have hp:=prgSz_of (p:=p) (n:=1048576) (by have:=szL_ge hc (by omega); omega)
 generalize szL (wProg p) 1048576=n2 at *
 simp only [go_sem,seval]
 repeat refine K ?_
 refine CA [] (szPickS_ok l n2 hl0.1 (by omega) (by omega)) ?_
 try simp only [go_sem,seval]
 repeat refine K ?_
 refine qA1 (fun hc3=>?_) (fun hc3=>?_)
 ·simp only [go_sem,seval]
  repeat refine K ?_
  refine fz ?_; simp [FinS,nilL,nilV,oneOr,-List.drop_one]
 simp only [decide_eq_false_iff_not] at hc3
 have hl:l.length≤1048576:=by have:=szL_ge hc3 (by omega); omega
 clear hc hc3 h1 l1
 obtain ⟨p1,p2,p3,p4⟩:=hp
 have q1 :∀b∈p.bods,40*b.length≤2^47:=fun b hb=>by have:=p3 b hb; omega
 have q2 :∀b∈p.bods,b.length≤2^47:=fun b hb=>by have:=p3 b hb; omega
 have hpp:SmallP p:=⟨by omega,by omega,fun b hb=>by have:=p3 b hb; omega⟩
 have tp:=toProg_ok p (by omega) (by omega) q1
 have tk:=toPickS_ok l (by omega)
 have cs:=specJudgeSame_ok p l hpp (by omega) hl0.2
 have ci:=implJudgeSame_ok p l hpp (by omega) hl0.2
 generalize judgeSame p l=w at *
 have ep:=eqProg_ok p p (by omega) (by omega) q2
 have ek:=eqPickS_ok l l (by omega)
 have eb:(w==w)=true:=by simp
 simp only [go_sem,seval]
 repeat refine K ?_
 refine CA [] (tp) ?_
 try simp only [go_sem,seval]
 repeat refine K ?_
 try simp only [go_sem,seval]
 repeat refine K ?_
 refine CA [] (tk) ?_
 try simp only [go_sem,seval]
 repeat refine K ?_
 try simp only [go_sem,seval]
 repeat refine K ?_
 refine CA [] (cs) ?_
 try simp only [go_sem,seval]
 repeat refine K ?_
 try simp only [go_sem,seval]
 repeat refine K ?_
 refine CA [] (tp) ?_
 try simp only [go_sem,seval]
 repeat refine K ?_
 try simp only [go_sem,seval]
 repeat refine K ?_
 refine CA [] (tk) ?_
 try simp only [go_sem,seval]
 repeat refine K ?_
 try simp only [go_sem,seval]
 repeat refine K ?_
 refine CA [] (ci) ?_
 try simp only [go_sem,seval]
 repeat refine K ?_
 try simp only [go_sem,seval,eb]
 repeat refine K ?_
 refine DA [] (tp) ?_
 try simp only [go_sem,seval]
 repeat refine K ?_
 refine DA [] (ep) ?_
 try simp only [go_sem,seval]
 repeat refine K ?_
 try simp only [go_sem,seval]
 repeat refine K ?_
 refine CA [] (tk) ?_
 try simp only [go_sem,seval]
 repeat refine K ?_
 refine CA [] (ek) ?_
 try simp only [go_sem,seval]
 repeat refine K ?_
 try simp only [go_sem,seval]
 repeat refine K ?_
 refine fz ?_; simp [FinS,nilL,nilV,oneOr,-List.drop_one]
end Go.Sep
