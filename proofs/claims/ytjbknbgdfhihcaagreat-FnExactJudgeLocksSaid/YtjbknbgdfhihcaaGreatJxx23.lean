/- Contracts of functions. -/
import Derived.Test.YtjbknbgdfhihcaaGreatJxx21
import Derived.Test.YtjbknbgdfhihcaaGreatJxx22
namespace Go.Sep
set_option maxHeartbeats 16000000
open Go.Proofs
set_option linter.unusedSimpArgs false
set_option linter.unusedVariables false
set_option maxRecDepth 100000
open Nat renaming reduceAdd → qA, reduceMul → qB, reduceEqDiff → qC, reduceBEq → qD
open Int renaming reduceToNat → qE, reduceEq → qF, reduceLT → qG, reduceLE → qH
open List renaming getD_eq_getElem?_getD → gD
def m397:MFn:=⟨47,[.t 4],kr [xb 2 0,xF 4] (kr [xm 12 2 2,xv 13 1,xc2 14 406 (.t 12) (.t 13),xv 11 14,xX 15 11 0,xX 16 11 1,xX 17 11 2,xo 6 (.alloc [.nil,.nil,.nil,.nil]),xv 5 15,xS 4 6 16,xv 7 17] (.seq (kr [xI 8 0] (.blk 0 (.loop (.seq (kr [xv 18 8,xa 19 0 2,xl 20 19,xe 21 20,bT 22 .lss 18 21,xv 23 22,yv 24 7 23,xP 25 23 24] (kX 25 0)) (.seq (.blk 1 (kr [xa 29 2 6,xm 30 1 29,xa 31 0 2,xl 32 31,xv 33 8,xc3 34 421 (.t 30) (.t 32) (.t 33),xv 28 34,xX 35 28 0,xX 36 28 1,xo 9 (.alloc [.int .i64 0,.nil,.bool false]),xS 3 9 35,xv 10 36] (xr [xv 37 10,xv 38 37,za 39 2 6 38,xg 40 (.load 1 true (.t 39)) 38 false,za 41 0 2 38,zl 42 1 41 38,zv 43 8 38,xg 44 (.call 422 [false,false,false] [.t 40,.t 42,.t 43]) 38 false,xQ 45 38 44,xv 7 45]))) (xr [xv 26 8,bI 27 .add 26 1,xv 8 27])))))) (kR [xv 46 7,xv 4 46])))⟩
def m398:MFn:=⟨47,[.t 4],kr [xb 2 0,xF 4] (kr [xm 12 2 2,xv 13 1,xc2 14 407 (.t 12) (.t 13),xv 11 14,xX 15 11 0,xX 16 11 1,xX 17 11 2,xo 6 (.alloc [.nil,.nil,.nil,.nil]),xv 5 15,xS 4 6 16,xv 7 17] (.seq (kr [xv 18 7,xN 19 18] (kF 19 [xF 4])) (.seq (kr [xa 20 0 2,xl 21 20,xe 22 21,xI 23 0] (.blk 0 (.loop (kr [bT 24 .lss 23 22] (.seq (kX 24 0) (.seq (.blk 1 (kr [xv 25 23,xv 8 25] (kr [xa 27 2 6,xm 28 1 27,xa 29 0 2,xl 30 29,xv 31 8,xc3 32 423 (.t 28) (.t 30) (.t 31),xv 26 32,xX 33 26 0,xX 34 26 1,xo 9 (.alloc [.int .i64 0,.nil,.bool false]),xS 3 9 33,xv 10 34] (kr [xv 35 10,xN 36 35,xv 37 36,ya 38 2 6 37,xg 39 (.load 1 true (.t 38)) 37 true,ya 40 0 2 37,yl 41 1 40 37,yv 42 8 37,xg 43 (.call 424 [false,false,false] [.t 39,.t 41,.t 42]) 37 true,yN 44 43 37,xP 45 37 44] (kF 45 [xF 4]))))) (xr [bI 46 .add 23 1,xv 23 46]))))))) (kR [xT 4]))))⟩
def judgeLocks (p:Prog) (l:List Pick):Bool:=(witness p l).2.2&&(List.range p.caps.length).all (fun n=>(chanIn (witness p l).2.1.mem.cells p.caps (n:Int)).2||lockedM (witness p l).2.1.mem.cells p.caps (n:Int))
theorem implJudgeLocks_ok (p:Prog) (l:List Pick) (hp:SmallP p) (hl:l.length<2^40) (hx :∀x∈l,pkOk x):CallOk Tryz.prog num 398 [.agg (progC .bw p),.sl .bw 2 (pcks l)] [] (.bool (judgeLocks p l)):=by
 refine EN m398 Tryz.func38 ?_
 unfold m398
 have hw:=implWitness_ok p l hp hl hx
 have hm:=witness_sm p l
 have h1:=hp.caps
 unfold judgeLocks
 generalize witness p l=w at *
 obtain ⟨o,m,b⟩:=w
 simp only at hm⊢
 simp only [go_sem,seval]
 repeat refine K ?_
 refine CA [] (hw) ?_
 try simp only [go_sem,seval]
 repeat refine K ?_
 cases b
 ·try simp only [go_sem,seval]
  repeat refine K ?_
  refine fz ?_; simp [FinS,nilL,nilV,oneOr,-List.drop_one]
 try simp only [go_sem,seval]
 repeat refine K ?_
 refine qA8 (ι:=Nat) (fun i=>.mk [(2,.ptr 10 0 0),(6,.ptr 16 0 0),(22,.int .i64 p.caps.length),(23,.int .i64 i)] [(10,2,[progC .bw p]),(16,4,[machineC .own m])] 17) (fun i=>i≤p.caps.length∧(List.range i).all (fun n=>(chanIn m.mem.cells p.caps (n:Int)).2||lockedM m.mem.cells p.caps (n:Int))=true) (fun i=>p.caps.length-i) 0 (by simp) ?_ ?_
 ·refine Sub.trans (Sub.fold1 16 0 12 rfl (by simp [-gD]<;>omega) rfl (by decide) (by decide) rfl) ?_
  simp only [fS,fS2,qA,qC]
  refine Sub.trans (Sub.fold1 16 1 13 rfl (by simp [-gD]<;>omega) rfl (by decide) (by decide) rfl) ?_
  simp only [fS,fS2,qA,qC]
  refine Sub.trans (Sub.fold1 16 2 14 rfl (by simp [-gD]<;>omega) rfl (by decide) (by decide) rfl) ?_
  simp only [fS,fS2,qA,qC]
  refine Sub.trans (Sub.fold1 16 3 15 rfl (by simp [-gD]<;>omega) rfl (by decide) (by decide) rfl) ?_
  simp only [fS,fS2,qA,qC]
  refine Sub.shape [] id (by omega) ?_ ?_ ?_ ?_<;>simp [qA2]
 ·rintro i ⟨hi,hq⟩
  simp only [go_sem,seval]
  repeat refine K ?_
  refine qA1 (fun hc=>?_) (fun hc=>?_)
  ·simp only [decide_eq_true_eq] at hc
   have hil:i<p.caps.length:=by omega
   simp only [go_sem,seval]
   repeat refine K ?_
   refine CA [] (implChanIn_ok m.mem.cells p.caps i hm.mem h1) ?_
   try simp only [go_sem,seval]
   repeat refine K ?_
   have hlk:=implLocked_ok m.mem.cells p.caps i hm.mem h1
   have hst:=fun h=>qB3 (P:=fun (n:Nat)=>(chanIn m.mem.cells p.caps (n:Int)).2||lockedM m.mem.cells p.caps (n:Int)) hil h
   have hsp:=fun h=>qBt (P:=fun (n:Nat)=>(chanIn m.mem.cells p.caps (n:Int)).2||lockedM m.mem.cells p.caps (n:Int)) hq h
   generalize chanIn m.mem.cells p.caps i=q at *
   obtain ⟨c,b⟩:=q
   cases b
   ·try simp only [go_sem,seval]
    repeat refine K ?_
    refine CA [] (hlk) ?_
    try simp only [go_sem,seval]
    repeat refine K ?_
    cases hL:lockedM m.mem.cells p.caps i
    ·try simp only [go_sem,seval,hL]
     repeat refine K ?_
     refine fz ?_; simp [FinS,nilL,nilV,oneOr,-List.drop_one]
     have:=hst (by rw [hL]; rfl)
     simpa using this
    ·try simp only [go_sem,seval,hL,qA7 (i:=i) (by omega)]
     repeat refine K ?_
     refine qA6 (i+1) ?_ ⟨hil,hsp (by rw [hL]; rfl)⟩ (by omega)
     refine Sub.trans (Sub.fold1 16 2 17 rfl (by simp [-gD]<;>omega) rfl (by decide) (by decide) rfl) ?_
     simp only [fS,fS2,qA,qC]
     refine Sub.shape [] id (by omega) ?_ ?_ ?_ ?_<;>simp [qA2]
   ·try simp only [go_sem,seval,qA7 (i:=i) (by omega)]
    repeat refine K ?_
    refine qA6 (i+1) ?_ ⟨hil,hsp rfl⟩ (by omega)
    refine Sub.trans (Sub.fold1 16 2 17 rfl (by simp [-gD]<;>omega) rfl (by decide) (by decide) rfl) ?_
    simp only [fS,fS2,qA,qC]
    refine Sub.shape [] id (by omega) ?_ ?_ ?_ ?_<;>simp [qA2]
  ·simp only [decide_eq_false_iff_not] at hc
   have he:=range_end (P:=fun (n:Nat)=>(chanIn m.mem.cells p.caps (n:Int)).2||lockedM m.mem.cells p.caps (n:Int)) hq hc hi
   simp only [go_sem,seval]
   repeat refine K ?_
   refine fz ?_; simp [FinS,nilL,nilV,oneOr,-List.drop_one]
   simpa using he
theorem specJudgeLocks_ok (p:Prog) (l:List Pick) (hp:SmallP p) (hl:l.length<2^40) (hx :∀x∈l,pkOk x):CallOk Tryz.prog num 397 [.agg (progC .bw p),.sl .bw 2 (pcks l)] [] (.bool (judgeLocks p l)):=by
 refine EN m397 Tryz.func37 ?_
 unfold m397
 have hw:=specWitness_ok p l hp hl hx
 have hm:=witness_sm p l
 have h1:=hp.caps
 unfold judgeLocks
 generalize witness p l=w at *
 obtain ⟨o,m,b⟩:=w
 simp only at hm⊢
 simp only [go_sem,seval]
 repeat refine K ?_
 refine CA [] (hw) ?_
 try simp only [go_sem,seval]
 repeat refine K ?_
 cases b
 ·try simp only [go_sem,seval]
  repeat refine K ?_
  refine qA8 (ι:=Nat) (fun _=>.mk [(2,.ptr 10 0 0),(6,.ptr 16 0 0),(7,.bool false),(8,.int .i64 0)] [(10,2,[progC .bw p]),(16,4,[machineC .own m])] 17) (fun i=>i=0) (fun i=>i) 0 rfl ?_ ?_
  ·refine Sub.trans (Sub.fold1 16 0 12 rfl (by simp [-gD]<;>omega) rfl (by decide) (by decide) rfl) ?_
   simp only [fS,fS2,qA,qC]
   refine Sub.trans (Sub.fold1 16 1 13 rfl (by simp [-gD]<;>omega) rfl (by decide) (by decide) rfl) ?_
   simp only [fS,fS2,qA,qC]
   refine Sub.trans (Sub.fold1 16 2 14 rfl (by simp [-gD]<;>omega) rfl (by decide) (by decide) rfl) ?_
   simp only [fS,fS2,qA,qC]
   refine Sub.trans (Sub.fold1 16 3 15 rfl (by simp [-gD]<;>omega) rfl (by decide) (by decide) rfl) ?_
   simp only [fS,fS2,qA,qC]
   refine Sub.shape [] id (by omega) ?_ ?_ ?_ ?_<;>simp [qA2]
  ·rintro i hi
   by_cases hc:(0:Int)<p.caps.length
   ·simp only [go_sem,seval,hc]
    repeat refine K ?_
    refine fz ?_; simp [FinS,nilL,nilV,oneOr,-List.drop_one]
   ·simp only [go_sem,seval,hc]
    repeat refine K ?_
    refine fz ?_; simp [FinS,nilL,nilV,oneOr,-List.drop_one]
 try simp only [go_sem,seval]
 repeat refine K ?_
 refine qA8 (ι:=Nat×Bool) (fun i=>.mk [(2,.ptr 10 0 0),(6,.ptr 16 0 0),(7,.bool i.2),(8,.int .i64 i.1)] [(10,2,[progC .bw p]),(16,4,[machineC .own m])] 17) (fun i=>i.1≤p.caps.length∧i.2=(List.range i.1).all (fun n=>(chanIn m.mem.cells p.caps (n:Int)).2||lockedM m.mem.cells p.caps (n:Int))∧(i.2=false→(List.range p.caps.length).all (fun n=>(chanIn m.mem.cells p.caps (n:Int)).2||lockedM m.mem.cells p.caps (n:Int))=false)) (fun i=>p.caps.length-i.1) (0,true) (by simp) ?_ ?_
 ·refine Sub.trans (Sub.fold1 16 0 12 rfl (by simp [-gD]<;>omega) rfl (by decide) (by decide) rfl) ?_
  simp only [fS,fS2,qA,qC]
  refine Sub.trans (Sub.fold1 16 1 13 rfl (by simp [-gD]<;>omega) rfl (by decide) (by decide) rfl) ?_
  simp only [fS,fS2,qA,qC]
  refine Sub.trans (Sub.fold1 16 2 14 rfl (by simp [-gD]<;>omega) rfl (by decide) (by decide) rfl) ?_
  simp only [fS,fS2,qA,qC]
  refine Sub.trans (Sub.fold1 16 3 15 rfl (by simp [-gD]<;>omega) rfl (by decide) (by decide) rfl) ?_
  simp only [fS,fS2,qA,qC]
  refine Sub.shape [] id (by omega) ?_ ?_ ?_ ?_<;>simp [qA2]
 ·rintro ⟨i,b⟩ ⟨hi,hq,hs⟩
  simp only at hi hq hs⊢
  by_cases hc:(i:Int)<p.caps.length
  case neg =>
   have he:i=p.caps.length:=by omega
   subst he
   simp only [go_sem,seval,hc]
   repeat refine K ?_
   refine fz ?_; simp [FinS,nilL,nilV,oneOr,-List.drop_one]
   exact hq.symm
  have hil:i<p.caps.length:=by omega
  cases b
  ·simp only [go_sem,seval,hc]
   repeat refine K ?_
   refine fz ?_; simp [FinS,nilL,nilV,oneOr,-List.drop_one]
   have:=hs rfl
   simpa using this
  simp only [go_sem,seval,hc]
  repeat refine K ?_
  refine CA [] (specChanIn_ok m.mem.cells p.caps i hm.mem h1) ?_
  try simp only [go_sem,seval]
  repeat refine K ?_
  have hlk:=specLocked_ok m.mem.cells p.caps i hm.mem h1
  have hst:=fun h=>qB3 (P:=fun (n:Nat)=>(chanIn m.mem.cells p.caps (n:Int)).2||lockedM m.mem.cells p.caps (n:Int)) hil h
  have hsp:=fun h=>qBt (P:=fun (n:Nat)=>(chanIn m.mem.cells p.caps (n:Int)).2||lockedM m.mem.cells p.caps (n:Int)) hq.symm h
  have hsf:=fun h=>qB3 (n:=i+1) (P:=fun (n:Nat)=>(chanIn m.mem.cells p.caps (n:Int)).2||lockedM m.mem.cells p.caps (n:Int)) (Nat.lt_succ_self i) h
  generalize chanIn m.mem.cells p.caps i=q at *
  obtain ⟨c,b⟩:=q
  cases b
  ·try simp only [go_sem,seval]
   repeat refine K ?_
   refine CA [] (hlk) ?_
   try simp only [go_sem,seval]
   repeat refine K ?_
   cases hL:lockedM m.mem.cells p.caps i
   ·try simp only [go_sem,seval,hL,qA7 (i:=i) (by omega)]
    repeat refine K ?_
    refine qA6 (i+1,false) ?_ ⟨hil,(hsf (by rw [hL]; rfl)).symm,fun _=>hst (by rw [hL]; rfl)⟩ (by omega)
    refine Sub.trans (Sub.fold1 16 2 17 rfl (by simp [-gD]<;>omega) rfl (by decide) (by decide) rfl) ?_
    simp only [fS,fS2,qA,qC]
    refine Sub.shape [] id (by omega) ?_ ?_ ?_ ?_<;>simp [qA2]
   ·try simp only [go_sem,seval,hL,qA7 (i:=i) (by omega)]
    repeat refine K ?_
    refine qA6 (i+1,true) ?_ ⟨hil,(hsp (by rw [hL]; rfl)).symm,fun h=>absurd h (by simp)⟩ (by omega)
    refine Sub.trans (Sub.fold1 16 2 17 rfl (by simp [-gD]<;>omega) rfl (by decide) (by decide) rfl) ?_
    simp only [fS,fS2,qA,qC]
    refine Sub.shape [] id (by omega) ?_ ?_ ?_ ?_<;>simp [qA2]
  ·try simp only [go_sem,seval,qA7 (i:=i) (by omega)]
   repeat refine K ?_
   refine qA6 (i+1,true) ?_ ⟨hil,(hsp rfl).symm,fun h=>absurd h (by simp)⟩ (by omega)
   refine Sub.trans (Sub.fold1 16 2 17 rfl (by simp [-gD]<;>omega) rfl (by decide) (by decide) rfl) ?_
   simp only [fS,fS2,qA,qC]
   refine Sub.shape [] id (by omega) ?_ ?_ ?_ ?_<;>simp [qA2]
def m396:MFn:=⟨45,[.t 4],kr [xb 2 0,xF 4] (kr [xI 5 1048576] (kr [xm 10 2 2,xv 11 5,xc2 12 27 (.t 10) (.t 11),xv 5 12] (.seq (kr [xv 13 5,bI 14 .lss 13 0] (kF 14 [xT 4])) (kr [xv 15 1,xv 16 5,xc2 17 384 (.t 15) (.t 16),xv 5 17] (.seq (kr [xv 18 5,bI 19 .lss 18 0] (kF 19 [xT 4])) (kr [xm 20 2 2,xc1 21 28 (.t 20),xv 22 1,xc1 23 385 (.t 22),xc2 24 397 (.t 21) (.t 23),xv 6 24] (kr [xm 25 2 2,xc1 26 28 (.t 25),xo 7 (.alloc [.nil,.nil]),xS 2 7 26] (kr [xv 27 1,xc1 28 385 (.t 27),xv 8 28] (kr [xm 29 2 7,xv 30 8,xc2 31 398 (.t 29) (.t 30),xv 9 31] (.seq (kr [xv 32 9,xv 33 6,xo 34 (.eqB true (.t 32) (.t 33))] (kF 34 [xF 4])) (.seq (.seq (.dreg (.take 0 (xm 35 2 7) (.only 1 [] (xm 36 2 2) (.only 2 [] (xc1 37 28 (.t 36)) (.only 3 [0] (xc2 38 30 (.t 35) (.t 37)) (.only 4 [3,0] (xN 39 38) (.done))))))) (kF 39 [xF 4])) (.seq (kr [xv 40 8,xv 41 1,xc1 42 385 (.t 41),xc2 43 388 (.t 40) (.t 42),xN 44 43] (kF 44 [xF 4])) (kR [xT 4])))))))))))))⟩
theorem exactJudgeLocks_ok (p:Prog) (l:List Pick) (h1:p.caps.length<2^63∧p.bods.length<2^63∧∀b∈p.bods,b.length<2^63) (hl0:l.length<2^63∧∀x∈l,pkOk x):CallOk Tryz.prog num 396 [.agg (progC .bw p),.sl .bw 2 (pcks l)] [] (.bool true):=by
 refine EN m396 Tryz.func6 ?_
 unfold m396
 simp only [go_sem,seval]
 repeat refine K ?_
 refine CA [] (szProg_ok p 1048576 h1.1 h1.2.1 h1.2.2 (by omega) (by omega)) ?_
 try simp only [go_sem,seval]
 repeat refine K ?_
 rw [szProg_eq p _ (by omega)]
 have l1:=szL_le (k:=wProg p) (n:=1048576) (by omega)
 refine qA1 (fun hc=>?_) (fun hc=>?_)
 ·simp only [go_sem,seval]
  repeat refine K ?_
  refine fz ?_; simp [FinS,nilL,nilV,oneOr,-List.drop_one]
 simp only [decide_eq_false_iff_not] at hc
 have hp:=prgSz_of (p:=p) (n:=1048576) (by have:=szL_ge hc (by omega); omega)
 generalize szL (wProg p) 1048576=n2 at *
 simp only [go_sem,seval]
 repeat refine K ?_
 refine CA [] (szPickS_ok l n2 hl0.1 (by omega) (by omega)) ?_
 try simp only [go_sem,seval]
 repeat refine K ?_
 refine qA1 (fun hc3=>?_) (fun hc3=>?_)
 ·simp only [go_sem,seval]
  repeat refine K ?_
  refine fz ?_; simp [FinS,nilL,nilV,oneOr,-List.drop_one]
 simp only [decide_eq_false_iff_not] at hc3
 have hl:l.length≤1048576:=by have:=szL_ge hc3 (by omega); omega
 clear hc hc3 h1 l1
 obtain ⟨p1,p2,p3,p4⟩:=hp
 have q1 :∀b∈p.bods,40*b.length≤2^47:=fun b hb=>by have:=p3 b hb; omega
 have q2 :∀b∈p.bods,b.length≤2^47:=fun b hb=>by have:=p3 b hb; omega
 have hpp:SmallP p:=⟨by omega,by omega,fun b hb=>by have:=p3 b hb; omega⟩
 have tp:=toProg_ok p (by omega) (by omega) q1
 have tk:=toPickS_ok l (by omega)
 have cs:=specJudgeLocks_ok p l hpp (by omega) hl0.2
 have ci:=implJudgeLocks_ok p l hpp (by omega) hl0.2
 generalize judgeLocks p l=w at *
 have ep:=eqProg_ok p p (by omega) (by omega) q2
 have ek:=eqPickS_ok l l (by omega)
 have eb:(w==w)=true:=by simp
 simp only [go_sem,seval]
 repeat refine K ?_
 refine CA [] (tp) ?_
 try simp only [go_sem,seval]
 repeat refine K ?_
 try simp only [go_sem,seval]
 repeat refine K ?_
 refine CA [] (tk) ?_
 try simp only [go_sem,seval]
 repeat refine K ?_
 try simp only [go_sem,seval]
 repeat refine K ?_
 refine CA [] (cs) ?_
 try simp only [go_sem,seval]
 repeat refine K ?_
 try simp only [go_sem,seval]
 repeat refine K ?_
 refine CA [] (tp) ?_
 try simp only [go_sem,seval]
 repeat refine K ?_
 try simp only [go_sem,seval]
 repeat refine K ?_
 refine CA [] (tk) ?_
 try simp only [go_sem,seval]
 repeat refine K ?_
 try simp only [go_sem,seval]
 repeat refine K ?_
 refine CA [] (ci) ?_
 try simp only [go_sem,seval]
 repeat refine K ?_
 try simp only [go_sem,seval,eb]
 repeat refine K ?_
 refine DA [] (tp) ?_
 try simp only [go_sem,seval]
 repeat refine K ?_
 refine DA [] (ep) ?_
 try simp only [go_sem,seval]
 repeat refine K ?_
 try simp only [go_sem,seval]
 repeat refine K ?_
 refine CA [] (tk) ?_
 try simp only [go_sem,seval]
 repeat refine K ?_
 refine CA [] (ek) ?_
 try simp only [go_sem,seval]
 repeat refine K ?_
 try simp only [go_sem,seval]
 repeat refine K ?_
 refine fz ?_; simp [FinS,nilL,nilV,oneOr,-List.drop_one]
end Go.Sep
