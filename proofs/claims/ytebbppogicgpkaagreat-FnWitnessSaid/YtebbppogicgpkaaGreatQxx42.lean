/- Contracts of functions. -/
import Derived.Test.YtebbppogicgpkaaGreatQxx12
namespace Go.Sep
set_option maxHeartbeats 16000000
open Go.Proofs
set_option linter.unusedSimpArgs false
set_option linter.unusedVariables false
set_option maxRecDepth 100000
open Nat renaming reduceAdd → qA, reduceMul → qB, reduceEqDiff → qC, reduceBEq → qD
open Int renaming reduceToNat → qE, reduceEq → qF, reduceLT → qG, reduceLE → qH
open List renaming getD_eq_getElem?_getD → gD
def m454:MFn:=⟨101,[.t 2],kr [xF 2] (.seq (kr [xv 15 0,xc1 16 19 (.t 15)] (kF 16 [xT 2])) (kr [xv 18 0,xo 19 (.call 439 [true] [.t 18]),xv 17 19,xX 20 17 0,xX 21 17 1,xo 3 (.alloc [.nil,.nil]),xS 2 3 20,xv 4 21] (kr [xm 23 2 3,xv 24 4,xc2 25 407 (.t 23) (.t 24),xv 22 25,xX 26 22 0,xX 27 22 1,xX 28 22 2,xo 6 (.alloc [.nil,.nil,.nil,.nil]),xv 5 26,xS 4 6 27,xv 7 28] (kr [xm 30 2 3,xv 31 4,xc2 32 406 (.t 30) (.t 31),xv 29 32,xX 33 29 0,xX 34 29 1,xX 35 29 2,xo 9 (.alloc [.nil,.nil,.nil,.nil]),xv 8 33,xS 4 9 34,xv 10 35] (.seq (kr [xv 36 7,xv 37 10,xo 38 (.eqB true (.t 36) (.t 37)),xv 39 38,zv 40 5 39,zv 41 8 39,xg 42 (.call 23 [false,false] [.t 40,.t 41]) 39 false,zN 43 42 39,xQ 44 39 43] (kF 44 [xF 2])) (.seq (kr [xv 45 7,xN 46 45] (kF 46 [xa 47 1 6,xl 48 47,xe 49 48,bI 50 .eql 49 0,xv 2 50])) (kr [xm 52 2 3,xc1 53 24 (.t 52),xv 51 53,xX 54 51 0,xX 55 51 1,xo 11 (.alloc [.nil,.nil,.nil]),xS 3 11 54,xv 12 55] (kr [xm 57 2 3,xm 58 3 11,xv 59 5,xc3 60 25 (.t 57) (.t 58) (.t 59),xv 56 60,xX 61 56 0,xX 62 56 1,xS 3 11 61,xv 13 62] (.seq (kr [xI 14 0] (.blk 0 (.loop (.seq (kr [xv 63 14,xv 64 13,xe 65 64,bT 66 .lss 63 65] (kX 66 0)) (.seq (.blk 1 (kr [xv 69 13,xv 70 14,xD 71 1 69 70,xl 72 71,bI 73 .neq 72 0,xv 74 73,yv 75 13 74,yv 76 14 74,xg 77 (.iad 1 (.t 75) (.t 76)) 74 true,yl 78 1 77 74,yI 79 .neq 78 4 74,xP 80 74 79] (kF 80 [xF 2]))) (xr [xv 67 14,bI 68 .add 67 1,xv 14 68])))))) (kR [xv 81 12,xv 82 81,yv 83 13 82,ye 84 83 82,yv 85 5 82,ye 86 85 82,xg 87 (.bin .eql (.t 84) (.t 86)) 82 true,xP 88 82 87,xv 89 88,ya 90 2 11 89,yl 91 1 90 89,ya 92 3 6 89,yl 93 1 92 89,xg 94 (.call 160 [false,false] [.t 91,.t 93]) 89 true,xP 95 89 94,xv 96 95,xg 97 (.load 2 true (.t 3)) 96 true,yv 98 4 96,xg 99 (.call 410 [false,false] [.t 97,.t 98]) 96 true,xP 100 96 99,xv 2 100]))))))))))⟩
theorem fnWitness_ok (code:List Int):CallOk Tryz.prog num 454 [.sl .fz 1 (bys code)] [] (.bool true):=by
 refine EN m454 Tryz.func10 ?_
 unfold m454
 simp only [go_sem,seval]
 repeat refine K ?_
 refine CA [] (big_ok code) ?_
 try simp only [go_sem,seval]
 repeat refine K ?_
 by_cases hbig:(1048576:Int)<code.length
 ·try simp only [go_sem,seval,hbig]
  repeat refine K ?_
  refine fz ?_; simp [FinS,nilL,nilV,oneOr,-List.drop_one]
 have hb:code.length<2^62:=by omega
 try simp only [go_sem,seval,hbig]
 repeat refine K ?_
 refine CA [] (drawPlayed_ok code hb) ?_
 try simp only [go_sem,seval]
 repeat refine K ?_
 obtain ⟨hp,hl,hx⟩:=playedF_ok code
 generalize playedF code=w at hp hl hx
 obtain ⟨p,l⟩:=w
 simp only at hp hl hx⊢
 have hpp:=smallP_of hp
 have cw:=implWitness_ok p l hpp (by omega) hx
 have cs:=specWitness_ok p l hpp (by omega) hx
 have hz:=(witness_z p l).1
 have hm:=witness_sm p l
 have hn:=@witness_none p l
 have hI:=@wit_inv p l
 have hR:=fun h=>@wit_room p l h (by omega)
 have ej:=implJudgeTrace_ok p l hpp (by omega) hx
 rw [judgeTrace_is] at ej
 generalize witness p l=W at *
 obtain ⟨o,m,b⟩:=W
 simp only at cw cs hz hm hn hI hR
 have eb:(b==b)=true:=by simp
 try simp only [go_sem,seval]
 repeat refine K ?_
 refine CA [] (cw) ?_
 try simp only [go_sem,seval]
 repeat refine K ?_
 try simp only [go_sem,seval]
 repeat refine K ?_
 refine CA [] (cs) ?_
 try simp only [go_sem,seval]
 repeat refine K ?_
 try simp only [go_sem,seval,eb]
 repeat refine K ?_
 refine CA [] (sameInts_ok o o (by omega)) ?_
 try simp only [go_sem,seval]
 repeat refine K ?_
 cases b
 ·have he:m.cores.length=0:=by rw [(hn rfl).2]; rfl
  try simp only [go_sem,seval,he]
  repeat refine K ?_
  refine fz ?_; simp [FinS,nilL,nilV,oneOr,-List.drop_one]
 obtain ⟨h1,h2,h3⟩:=hI rfl
 have hj:sourceRun p (sourceNew p).1 o=jsrc p o:=rfl
 have so0:=sourceNew_ok hp
 have csn:=implSourceNew_ok p (by have:=hpp.caps; omega) (by have:=hpp.bods; omega) (fun b hb=>by have:=hpp.body b hb; omega)
 have n1:(sourceNew p).2=true:=by simp [sourceNew,hp]
 have csr:=implSourceRun_ok p (sourceNew p).1 o hpp (small_of so0) (by omega)
 rw [n1] at csn
 rw [hj] at csr
 clear hj
 generalize jsrc p o=q at *
 obtain ⟨s,c⟩:=q
 simp only at h1 h2 h3 csr
 have hs:=small_of h1.src
 generalize (sourceNew p).1=s0 at *
 have hat:=@jdone_at c h2
 have ht:s.tr=m.tr:=h1.tr.symm
 try simp only [go_sem,seval]
 repeat refine K ?_
 refine CA [] (csn) ?_
 try simp only [go_sem,seval]
 repeat refine K ?_
 try simp only [go_sem,seval]
 repeat refine K ?_
 refine CA [] (csr) ?_
 try simp only [go_sem,seval]
 repeat refine K ?_
 try simp only [go_sem,seval]
 repeat refine K ?_
 refine loop_intro (ι:=Nat) (fun i=>.mk [(3,.ptr 13 0 0),(4,.ns 12 0 l.length),(5,.ns 14 0 o.length),(6,.ptr 19 0 0),(11,.ptr 29 0 0),(12,.bool true),(13,.ns 33 0 c.length),(14,.int .i64 i)] [(13,2,[progC .own p]),(12,2,pcks l),(14,1,ints o),(19,4,[machineC .own m]),(29,3,[sourceC .own s]),(33,1,ints c)] 34) (fun i=>i≤c.length) (fun i=>c.length-i) 0 (by simp) ?_ ?_
 ·refine Sub.trans (Sub.fold1 13 0 10 rfl (by simp [-gD]<;>omega) rfl (by decide) (by decide) rfl) ?_
  simp only [fS,qA,qC]
  refine Sub.trans (Sub.fold1 13 1 11 rfl (by simp [-gD]<;>omega) rfl (by decide) (by decide) rfl) ?_
  simp only [fS,qA,qC]
  refine Sub.trans (Sub.fold1 19 0 15 rfl (by simp [-gD]<;>omega) rfl (by decide) (by decide) rfl) ?_
  simp only [fS,qA,qC]
  refine Sub.trans (Sub.fold1 19 1 16 rfl (by simp [-gD]<;>omega) rfl (by decide) (by decide) rfl) ?_
  simp only [fS,qA,qC]
  refine Sub.trans (Sub.fold1 19 2 17 rfl (by simp [-gD]<;>omega) rfl (by decide) (by decide) rfl) ?_
  simp only [fS,qA,qC]
  refine Sub.trans (Sub.fold1 19 3 18 rfl (by simp [-gD]<;>omega) rfl (by decide) (by decide) rfl) ?_
  simp only [fS,qA,qC]
  refine Sub.trans (Sub.fold1 29 0 30 rfl (by simp [-gD]<;>omega) rfl (by decide) (by decide) rfl) ?_
  simp only [fS,qA,qC]
  refine Sub.trans (Sub.fold1 29 1 31 rfl (by simp [-gD]<;>omega) rfl (by decide) (by decide) rfl) ?_
  simp only [fS,qA,qC]
  refine Sub.trans (Sub.fold1 29 2 32 rfl (by simp [-gD]<;>omega) rfl (by decide) (by decide) rfl) ?_
  simp only [fS,qA,qC]
  refine Sub.shape [] id (by omega) ?_ ?_ ?_ ?_<;>simp [ints_rep]
 ·intro i hi
  simp only [go_sem,seval]
  refine branch_intro (fun hc=>?_) (fun hc=>?_)
  ·simp only [decide_eq_true_eq] at hc
   have hil:i<c.length:=by omega
   rcases hat hil with h0 | h4
   ·simp only [go_sem,seval,ints_getD c i hil,h0,wrap_succ (i:=i) (by omega)]
    repeat refine K ?_
    refine back_intro (i+1) (Sub.shape [] id (by omega) ?_ ?_ ?_ ?_) ?_ ?_
    any_goals (first | omega | (simp [ints_rep]; done))
   ·simp only [go_sem,seval,ints_getD c i hil,h4,wrap_succ (i:=i) (by omega)]
    repeat refine K ?_
    refine back_intro (i+1) (Sub.shape [] id (by omega) ?_ ?_ ?_ ?_) ?_ ?_
    any_goals (first | omega | (simp [ints_rep]; done))
  ·simp only [decide_eq_false_iff_not] at hc
   simp only [go_sem,seval,h3]
   repeat refine K ?_
   refine CA [] (sameNotes_ok s.tr m.tr (by have:=hs.tr; omega)) ?_
   try simp only [go_sem,seval]
   repeat refine K ?_
   try simp only [go_sem,seval,ht]
   repeat refine K ?_
   refine CA [] (ej) ?_
   try simp only [go_sem,seval]
   repeat refine K ?_
   try simp only [go_sem,seval]
   repeat refine K ?_
   refine fz ?_; simp [FinS,nilL,nilV,oneOr,-List.drop_one]
end Go.Sep
