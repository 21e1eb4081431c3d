/- Contracts of functions. -/
import Derived.Test.YtfecojefbnnknaaMxx10
namespace Go.Sep
set_option maxHeartbeats 16000000
open Go.Proofs
set_option linter.unusedSimpArgs false
set_option linter.unusedVariables false
set_option maxRecDepth 100000
open Nat renaming reduceAdd → qA, reduceMul → qB, reduceEqDiff → qC, reduceBEq → qD
open Int renaming reduceToNat → qE, reduceEq → qF, reduceLT → qG, reduceLE → qH
open List renaming getD_eq_getElem?_getD → gD
def m144:MFn:=⟨43,[.cell 6 3 true,.t 7],kr [xb 3 0,xb 4 1,xo 6 (.alloc [.nil,.nil,.nil]),xI 7 0] (.seq (kr [xm 12 2 3,xm 13 3 4,xc2 14 50 (.t 12) (.t 13),xN 15 14] (kF 15 [xo 16 (.build [.nil,.nil,.nil] []),xS 3 6 16,xI 7 0])) (kr [xm 17 3 4,xc1 18 49 (.t 17),xo 8 (.alloc [.nil,.nil,.nil]),xS 3 8 18] (kr [xI 9 0] (.seq (kr [xI 10 0] (.blk 0 (.loop (.seq (kr [xv 19 10,xv 20 2,bT 21 .lss 19 20,xv 22 21,yv 23 10 22,yI 24 .lss 23 200 22,xP 25 22 24] (kX 25 0)) (.seq (.blk 1 (kr [xa 28 0 8,xl 29 28,xe 30 29,xI 31 0] (.blk 2 (.loop (kr [bT 32 .lss 31 30] (.seq (kX 32 2) (.seq (.blk 3 (kr [xv 33 31,xv 11 33] (kr [xm 34 2 3,xv 35 11,xo 36 (.call 43 [false,true,false] [.t 34,.t 8,.t 35]),bI 37 .eql 36 0] (.cond 37 (xr [xv 38 9,bI 39 .add 38 1,xv 9 39]) (.skip))))) (xr [bI 40 .add 31 1,xv 31 40])))))))) (xr [xv 26 10,bI 27 .add 26 1,xv 10 27])))))) (kR [xm 41 3 8,xv 42 9,xS 3 6 41,xv 7 42])))))⟩
def kK (rounds:Int):Nat:=(if rounds<200 then rounds else 200).toNat
theorem qXx (r:Int):kK r≤200:=by unfold kK; split<;>omega
theorem qXw {r:Int} {i:Nat}:((i:Int)<r∧(i:Int)<200)↔i<kK r:=by unfold kK; split<;>omega
theorem qDo (p:wK) (s:qU) (rounds:Int) (hp:eZ p) (hs:qKf s):wD Try.prog num 144 [.agg (bH .bw p),.agg (uL .bw s),.int .i64 rounds] [] (.tup [.agg (uL .own (qGw p s rounds).1),.int .i64 (qGw p s rounds).2]):=by
 refine EN m144 Try.func14 ?_
 unfold m144
 simp only [go_sem,seval]
 repeat refine K ?_
 refine CA [] (qEc p s hp hs) ?_
 try simp only [go_sem,seval]
 repeat refine K ?_
 cases hok:qZ p s
 ·try simp only [go_sem,seval,hok]
  repeat refine K ?_
  apply qLs (by simp)
  ·exact Sub.refl _
  ·simp [-List.drop_one,-gD,qGw,hok,qD5,qK8,qJg]<;>(first | rfl | exact ⟨rfl,rfl⟩ | exact ⟨rfl,rfl,rfl⟩ | skip)
 try simp only [go_sem,seval,hok]
 repeat refine K ?_
 refine CA [] (qIi s hs) ?_
 try simp only [go_sem,seval]
 repeat refine K ?_
 try simp only [go_sem,seval]
 repeat refine K ?_
 have hf:qGw p s rounds=aE p s (kK rounds):=by unfold qGw; rw [if_pos hok]; rfl
 rw [hf]
 refine wJ (ι:=Nat) (fun i=>.mk [(2,.int .i64 rounds),(3,.ptr 10 0 0),(6,.ptr 12 0 0),(8,.ptr 16 0 0),(9,.int .i64 (aE p s i).2),(10,.int .i64 i)] [(10,2,[bH .bw p]),(12,3,[[.nil,.nil,.nil]]),(16,3,[uL .own (aE p s i).1])] 17) (fun i=>i≤kK rounds) (fun i=>kK rounds-i) 0 (by simp) ?_ ?_
 ·refine Sub.trans (Sub.fold1 16 0 13 rfl (by simp [-gD]<;>omega) rfl (by decide) (by decide) rfl) ?_
  simp only [fS,qA,qC]
  refine Sub.trans (Sub.fold1 16 1 14 rfl (by simp [-gD]<;>omega) rfl (by decide) (by decide) rfl) ?_
  simp only [fS,qA,qC]
  refine Sub.trans (Sub.fold1 16 2 15 rfl (by simp [-gD]<;>omega) rfl (by decide) (by decide) rfl) ?_
  simp only [fS,qA,qC]
  refine Sub.shape [] id (by omega) ?_ ?_ ?_ ?_<;>simp [qL]
  all_goals simp [aE]
 ·intro i hi
  obtain ⟨hso,c0,c1⟩:=qOe hok i
  have hK:=qXx rounds
  have hlt:=@qXw rounds i
  have hthen:i<kK rounds→(i:Int)<rounds∧(i:Int)<200:=fun h=>hlt.2 h
  obtain ⟨t1,t2⟩:=qFy hso
  have hnext:aE p s (i+1)=zA p p.bods.length (aE p s i):=rfl
  by_cases hc:i<kK rounds
  ·obtain ⟨g1,g2⟩:=hthen hc
   simp only [go_sem,seval,g1,g2]
   repeat refine K ?_
   refine wJ (ι:=Nat) (fun j=>.mk [(2,.int .i64 rounds),(3,.ptr 10 0 0),(6,.ptr 12 0 0),(8,.ptr 16 0 0),(9,.int .i64 (zA p j (aE p s i)).2),(10,.int .i64 i),(30,.int .i64 p.bods.length),(31,.int .i64 j)] [(10,2,[bH .bw p]),(12,3,[[.nil,.nil,.nil]]),(16,3,[uL .own (zA p j (aE p s i)).1])] 17) (fun j=>j≤p.bods.length) (fun j=>p.bods.length-j) 0 (by simp) ?_ ?_
   ·refine Sub.trans (Sub.fold1 16 0 17 rfl (by simp [-gD]<;>omega) rfl (by decide) (by decide) rfl) ?_
    simp only [fS,qA,qC]
    refine Sub.shape [] id (by omega) ?_ ?_ ?_ ?_<;>simp [qL]
    all_goals simp [zA,t1]
   ·intro j hj
    obtain ⟨hsj,d0,d1⟩:=pQ hso c0 c1 j
    have hn2:=sL p j (aE p s i)
    have hss:=oK hsj
    have htr:=pA hsj
    generalize hst:zA p j (aE p s i)=st at hsj d0 d1 hn2 hss htr
    simp only [go_sem,seval]
    refine qX (fun hc2=>?_) (fun hc2=>?_)
    ·simp only [decide_eq_true_eq] at hc2
     have hj2:j<p.bods.length:=by omega
     simp only [go_sem,seval,qV (i:=j) (by omega)]
     repeat refine K ?_
     refine CA [(0,16)] (qI1 p st.1 j hp hss hsj htr) ?_
     try simp only [go_sem,seval]
     repeat refine K ?_
     by_cases hcode:(qM p st.1 j).2=0
     ·have w:IntKind.i64.wrap (st.2+1)=st.2+1:=yV (by omega) (by omega)
      try simp only [go_sem,seval,hcode,w,qV (i:=j) (by omega)]
      repeat refine K ?_
      refine qT (j+1) ?_ hj2 (by omega)
      simp only [hn2,qB6,hcode]
      refine Sub.shape [] id (by omega) ?_ ?_ ?_ ?_<;>simp [qL]
     ·try simp only [go_sem,seval,hcode,qV (i:=j) (by omega)]
      repeat refine K ?_
      refine qT (j+1) ?_ hj2 (by omega)
      simp only [hn2,qB6,hcode]
      refine Sub.shape [] id (by omega) ?_ ?_ ?_ ?_<;>simp [qL]
    ·simp only [decide_eq_false_iff_not] at hc2
     have hje:j=p.bods.length:=by omega
     subst hje
     simp only [go_sem,seval,qV (i:=i) (by omega)]
     repeat refine K ?_
     refine qT (i+1) ?_ hc (by omega)
     simp only [hnext,hst]
     refine Sub.shape [] id (by omega) ?_ ?_ ?_ ?_<;>simp [qL]
  ·have hie:i=kK rounds:=by omega
   subst hie
   have hno :¬((kK rounds:Int)<rounds∧(kK rounds:Int)<200):=fun h=>by have:=hlt.1 h; omega
   by_cases g1:(kK rounds:Int)<rounds
   ·have g2 :¬(kK rounds:Int)<200:=fun h=>hno ⟨g1,h⟩
    simp only [go_sem,seval,g1,g2]
    repeat refine K ?_
    apply qLs (by simp)
    ·exact Sub.refl _
    ·simp [-List.drop_one,-gD,]<;>(first | rfl | exact ⟨rfl,rfl⟩ | exact ⟨rfl,rfl,rfl⟩ | skip)
   ·simp only [go_sem,seval,g1]
    repeat refine K ?_
    apply qLs (by simp)
    ·exact Sub.refl _
    ·simp [-List.drop_one,-gD,]<;>(first | rfl | exact ⟨rfl,rfl⟩ | exact ⟨rfl,rfl,rfl⟩ | skip)
end Go.Sep
