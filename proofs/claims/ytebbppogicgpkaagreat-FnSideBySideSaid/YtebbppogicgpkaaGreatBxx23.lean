/- Contracts of functions. -/
import Derived.Test.YtebbppogicgpkaaGreatBxx19
import Derived.Test.YtebbppogicgpkaaGreatBxx22
import Derived.Test.YtebbppogicgpkaaGreatBxx7
namespace Go.Sep
set_option maxHeartbeats 16000000
open Go.Proofs
set_option linter.unusedSimpArgs false
set_option linter.unusedVariables false
set_option maxRecDepth 100000
open Nat renaming reduceAdd → qA, reduceMul → qB, reduceEqDiff → qC, reduceBEq → qD
open Int renaming reduceToNat → qE, reduceEq → qF, reduceLT → qG, reduceLE → qH
open List renaming getD_eq_getElem?_getD → gD
def qU7 (x:dK):Prop:=-(2^63)≤x.late∧x.late<2^63
theorem qP8 {m:qO} {x:dK} (h:qL x.who 0 (m.cores.length-1)=false):yJ m x=(m,2):=by
 have hc:aM m x.who=2:=by
  unfold aM
  rw [h]
  rfl
 unfold yJ
 rw [hc]
 rfl
theorem qN7 {m:qO} {i:Nat} {late:Int} (hi:i<m.cores.length) (hc:(yJ m ⟨i,late⟩).2≠0):(yJ m ⟨i,late⟩).2=3:=by
 have hw:qL (i:Int) 0 ((m.cores.length:Int)-1)=true:=by rw [qK]; omega
 unfold yJ at hc⊢
 simp only at hc⊢
 by_cases h0:aM m (i:Int)=0
 ·rw [if_pos h0] at hc
  exact absurd rfl hc
 rw [if_neg h0]
 show aM m (i:Int)=3
 unfold aM at h0⊢
 rw [if_pos hw] at h0⊢
 dsimp only at h0⊢
 split
 ·rfl
 ·rename_i h1
  rw [if_neg h1] at h0
  split
  ·rfl
  ·rename_i h2
   rw [if_neg h2] at h0
   exact absurd rfl h0
theorem qRr (m:qO) (l:List dK) (i:Nat) (h:i<l.length):kZ m (l.take (i+1))=(yJ (kZ m (l.take i)) (l.getD i default)).1:=by
 rw [uH l default i h,qJq]
def m145:MFn:=⟨52,[.cell 6 3 true,.t 7],kr [xb 3 0,xb 4 1,xo 6 (.alloc [.nil,.nil,.nil]),xo 7 (.mv (.c (.nil)))] (kr [xo 13 (.mkSl [xz] 0 []),xv 8 13] (kr [xm 14 3 4,xc1 15 65 (.t 14),xo 9 (.alloc [.nil,.nil,.nil]),xS 3 9 15] (.seq (kr [xm 16 2 3,xm 17 3 4,xc2 18 63 (.t 16) (.t 17),xN 19 18,xv 20 19,zv 21 2 20,ze 22 21 20,zI 23 .gtr 22 4000 20,xQ 24 20 23] (kF 24 [xm 25 3 9,xv 26 8,xS 3 6 25,xv 7 26])) (.seq (kr [xI 10 0] (.blk 0 (.loop (.seq (kr [xv 27 10,xv 28 2,xe 29 28,bT 30 .lss 27 29] (kX 30 0)) (.seq (.blk 1 (.seq (.dreg (.take 0 (xm 34 2 3) (.take 1 (xm 35 3 9) (.take 2 (xv 36 2) (.take 3 (xv 37 10) (.take 4 (xD 38 1 36 37) (.take 5 (xl 39 38) (.both 6 [0,1,5,4,2,3] (xc3 40 46 (.t 34) (.t 35) (.t 39)) (.take 7 (xv 33 40) (.take 8 (xX 41 33 0) (.take 9 (xX 42 33 1) (.only 10 [] (xo 11 (.alloc [.nil,.nil,.nil])) (.only 11 [0,1,2,3,4,5,7,8] (xS 3 11 41) (.only 12 [0,1,2,3,4,5,7,8,9] (xv 12 42) (.done))))))) 10 [] (xo 11 (.alloc [.nil,.nil,.nil])) (.only 6 [0,1,5,4,2,3] (xc3 40 46 (.t 34) (.t 35) (.t 39)) (.only 7 [6,0,1,5,4,2,3] (xv 33 40) (.take 8 (xX 41 33 0) (.take 9 (xX 42 33 1) (.only 11 [0,1,2,3,4,5,8] (xS 3 11 41) (.only 12 [0,1,2,3,4,5,8,9] (xv 12 42) (.done))))))))))))))) (kr [xv 43 8,xv 44 12,xo 45 (.mkSl [xz] 1 [(0,.t 44)]),xA 46 1 8 43 45,xv 8 46] (kr [xv 47 12,bI 48 .eql 47 0] (.cond 48 (xr [xm 49 3 11,xS 3 9 49]) (.skip)))))) (xr [xv 31 10,bI 32 .add 31 1,xv 10 32])))))) (kR [xm 50 3 9,xv 51 8,xS 3 6 50,xv 7 51])))))⟩
theorem rE {p:wR} {s:wC} {who:Int} (h :¬(wZ p s who).2=0):(wZ p s who).1=s:=by
 unfold wZ at h⊢
 split
 ·rename_i hc
  rw [if_pos hc] at h
  exact absurd rfl h
 ·rfl
theorem qCp (p:wR) (s:wC) (picks:List Int) (hp:dB p) (hs:kL s) (h4:picks.length<2^40) :
  qU Tryz.prog num 145 [.agg (jS .bw p),.agg (jB .bw s),.sl .bw 1 (wT picks)] [] (.tup [.agg (jB .own (xB p s picks).1),.sl .own 1 (wT (xB p s picks).2)]):=by
 refine EN m145 Tryz.func163 ?_
 unfold m145
 simp only [go_sem,seval]
 refine CA [] (fH s hs) ?_
 try simp only [go_sem,seval]
 refine CA [] (kN p s hp hs) ?_
 try simp only [go_sem,seval]
 cases hok:wE p s
 ·try simp only [go_sem,seval,hok]
  apply wA (by simp)
  ·exact Sub.refl _
  ·simp [-List.drop_one,-gD,xB,hok,bF]<;>(first | rfl | exact ⟨rfl,rfl⟩ | exact ⟨rfl,rfl,rfl⟩ | skip)
 by_cases hl:(4000:Int)<picks.length
 ·have hl' :¬(picks.length:Int)≤4000:=by omega
  try simp only [go_sem,seval,hok,hl]
  apply wA (by simp)
  ·exact Sub.refl _
  ·simp [-List.drop_one,-gD,xB,hl',bF]<;>(first | rfl | exact ⟨rfl,rfl⟩ | exact ⟨rfl,rfl,rfl⟩ | skip)
 have hl':(picks.length:Int)≤4000:=by omega
 try simp only [go_sem,seval,hok,hl]
 refine wB (ι:=Nat) (fun i=>.mk [(2,.sl .bw 1 (wT picks)),(3,.ptr 10 0 0),(6,.ptr 12 0 0),(8,.ns 13 0 i),(9,.ptr 17 0 0),(10,.int .i64 i)] [(10,2,[jS .bw p]),(12,3,[[.nil,.nil,.nil]]),(13,1,wT ((picks.take i).foldl (xM p) (s,[])).2),(17,3,[jB .own ((picks.take i).foldl (xM p) (s,[])).1])] 18) (fun i=>i≤picks.length) (fun i=>picks.length-i) 0 (by simp) ?_ ?_
 ·refine Sub.trans (Sub.fold1 17 0 14 rfl (by simp [-gD]<;>omega) rfl (by decide) (by decide) rfl) ?_
  simp only [fS,qA,qC]
  refine Sub.trans (Sub.fold1 17 1 15 rfl (by simp [-gD]<;>omega) rfl (by decide) (by decide) rfl) ?_
  simp only [fS,qA,qC]
  refine Sub.trans (Sub.fold1 17 2 16 rfl (by simp [-gD]<;>omega) rfl (by decide) (by decide) rfl) ?_
  simp only [fS,qA,qC]
  refine Sub.shape [] id (by omega) ?_ ?_ ?_ ?_<;>simp [qM]
  exact .inl rfl
 ·intro i hi
  have hr:=qFt hok picks i hi
  have hstep:=fun h=>qU5 p picks i h (s,[])
  have hfin :¬(i:Int)<picks.length→(picks.take i).foldl (xM p) (s,[])=qXm p s picks:=fun h=>by rw [List.take_of_length_le (by omega)]; rfl
  generalize (picks.take i).foldl (xM p) (s,[])=st at hr hstep hfin
  obtain ⟨hso,hlen⟩:=hr
  have hss:=rU hso
  simp only [go_sem,seval]
  refine qP (fun hc=>?_) (fun hc=>?_)
  ·simp only [decide_eq_true_eq] at hc
   have hl2:i<picks.length:=by omega
   have e:vL p st.1 (picks.getD i 0)=wZ p st.1 (picks.getD i 0):=by unfold vL; rw [if_pos hso]
   simp only [go_sem,seval,qI picks i hl2]
   repeat refine K ?_
   refine ⟨?_,?_⟩
   ·skip
    refine DA [] (mQ p st.1 (picks.getD i 0) hp hss) ?_
    try simp only [go_sem,seval]
    repeat refine K ?_
    try simp only [go_sem,seval,e,qS (i:=i) (by omega),hlen]
    by_cases hcode:(wZ p st.1 (picks.getD i 0)).2=0
    ·try simp only [go_sem,seval,hcode,qS (i:=i) (by omega),hlen]
     refine qT (i+1) ?_ hl2 (by omega)
     simp only [hstep hl2,xM,hcode]
     refine Sub.trans (Sub.fold1 17 0 21 rfl (by simp [-gD]<;>omega) rfl (by decide) (by decide) rfl) ?_
     simp only [fS,qA,qC]
     refine Sub.trans (Sub.fold1 17 1 22 rfl (by simp [-gD]<;>omega) rfl (by decide) (by decide) rfl) ?_
     simp only [fS,qA,qC]
     refine Sub.trans (Sub.fold1 17 2 23 rfl (by simp [-gD]<;>omega) rfl (by decide) (by decide) rfl) ?_
     simp only [fS,qA,qC]
     refine Sub.shape [] (fun n=>if n=13 then 26 else n) (by omega) ?_ ?_ ?_ ?_<;>simp [qM]
     all_goals exact .inl (fI _ _)
    ·try simp only [go_sem,seval,hcode,qS (i:=i) (by omega),hlen]
     refine qT (i+1) ?_ hl2 (by omega)
     simp only [hstep hl2,xM,rE hcode]
     refine Sub.trans (Sub.fold1 17 0 18 rfl (by simp [-gD]<;>omega) rfl (by decide) (by decide) rfl) ?_
     simp only [fS,qA,qC]
     refine Sub.trans (Sub.fold1 17 1 19 rfl (by simp [-gD]<;>omega) rfl (by decide) (by decide) rfl) ?_
     simp only [fS,qA,qC]
     refine Sub.trans (Sub.fold1 17 2 20 rfl (by simp [-gD]<;>omega) rfl (by decide) (by decide) rfl) ?_
     simp only [fS,qA,qC]
     refine Sub.shape [] (fun n=>if n=13 then 26 else n) (by omega) ?_ ?_ ?_ ?_<;>simp [qM]
     all_goals exact .inl (fI _ _)
   ·repeat refine K ?_
    refine DA [] (mQ p st.1 (picks.getD i 0) hp hss) ?_
    try simp only [go_sem,seval]
    repeat refine K ?_
    try simp only [go_sem,seval,e,qS (i:=i) (by omega),hlen]
    by_cases hcode:(wZ p st.1 (picks.getD i 0)).2=0
    ·try simp only [go_sem,seval,hcode,qS (i:=i) (by omega),hlen]
     refine qT (i+1) ?_ hl2 (by omega)
     simp only [hstep hl2,xM,hcode]
     refine Sub.trans (Sub.fold1 17 0 22 rfl (by simp [-gD]<;>omega) rfl (by decide) (by decide) rfl) ?_
     simp only [fS,qA,qC]
     refine Sub.trans (Sub.fold1 17 1 23 rfl (by simp [-gD]<;>omega) rfl (by decide) (by decide) rfl) ?_
     simp only [fS,qA,qC]
     refine Sub.trans (Sub.fold1 17 2 24 rfl (by simp [-gD]<;>omega) rfl (by decide) (by decide) rfl) ?_
     simp only [fS,qA,qC]
     refine Sub.shape [] (fun n=>if n=13 then 26 else n) (by omega) ?_ ?_ ?_ ?_<;>simp [qM]
     all_goals exact .inl (fI _ _)
    ·try simp only [go_sem,seval,hcode,qS (i:=i) (by omega),hlen]
     refine qT (i+1) ?_ hl2 (by omega)
     simp only [hstep hl2,xM,rE hcode]
     refine Sub.trans (Sub.fold1 17 0 18 rfl (by simp [-gD]<;>omega) rfl (by decide) (by decide) rfl) ?_
     simp only [fS,qA,qC]
     refine Sub.trans (Sub.fold1 17 1 19 rfl (by simp [-gD]<;>omega) rfl (by decide) (by decide) rfl) ?_
     simp only [fS,qA,qC]
     refine Sub.trans (Sub.fold1 17 2 20 rfl (by simp [-gD]<;>omega) rfl (by decide) (by decide) rfl) ?_
     simp only [fS,qA,qC]
     refine Sub.shape [] (fun n=>if n=13 then 26 else n) (by omega) ?_ ?_ ?_ ?_<;>simp [qM]
     all_goals exact .inl (fI _ _)
  ·simp only [decide_eq_false_iff_not] at hc
   have hf:=hfin hc
   simp only [go_sem,seval]
   apply wA (by simp)
   ·exact Sub.refl _
   ·simp [-List.drop_one,-gD,xB,hok,hl',hlen,←hf]<;>(first | rfl | exact ⟨rfl,rfl⟩ | exact ⟨rfl,rfl,rfl⟩ | skip)
def m437:MFn:=⟨39,[.t 6],kr [xb 3 0,xF 6] (.seq (kr [xv 9 1,xv 10 2,xc2 11 229 (.t 9) (.t 10),xN 12 11] (kF 12 [xF 6])) (.seq (.dreg (.take 0 (xm 14 2 3) (.take 1 (xv 15 2) (.take 2 (xv 16 1) (.take 3 (xk 17 16) (.take 4 (xa 18 1 17) (.take 5 (xl 19 18) (.only 6 [] (xv 20 2) (.only 7 [5,4,3,2] (xD 21 4 19 20) (.only 8 [7,5,4,3,2] (xa 22 0 21) (.only 9 [8,7,5,4,3,2] (xl 23 22) (.only 10 [0,1,9,8,7,5,4,3,2] (xc3 24 230 (.t 14) (.t 15) (.t 23)) (.only 11 [10,0,1,9,8,7,5,4,3,2] (xv 13 24) (.take 12 (xX 25 13 0) (.take 13 (xX 26 13 1) (.only 14 [0,1,2,3,4,5,12] (xv 7 25) (.only 15 [0,1,2,3,4,5,12,13] (xv 8 26) (.done)))))))))))))))))) (kR [xv 27 1,xk 28 27,xa 29 1 28,xl 30 29,xv 31 2,xD 32 4 30 31,xa 33 3 32,xl 34 33,bI 35 .eql 34 0,xv 36 35,yv 37 8 36,xP 38 36 37,xv 6 38])))⟩
def qXn (p:wR) (M:qO) (i:Nat):Bool:=decide ((qJ M i).st=0)&&!aG p M i
def rst (p:wR) (i:Nat):Nat→qO→qO
 | 0,M=>M
 | n+1,M=>if qXn p M i then rst p i n (yJ M ⟨i,0⟩).1 else M
def qY0 (p:wR) (l:List Nat) (M:qO):qO:=l.foldl (fun M i=>rst p i 40 M) M
theorem qQb (p:wR) (m:qO) (i:Nat):aG p m i=(qL (i:Int) 0 (m.cores.length-1)&&decide ((qJ m i).st=0)&&(jY p i (qJ m i).at_).2):=rfl
theorem qH7 (p:wR) (m:qO) (i:Nat) (hp:dB p) (hl:m.cores.length<2^40) (hi:i<m.cores.length):qU Tryz.prog num 437 [.agg (jS .bw p),.fptr .bw (wG .bw m) 0,.int .i64 i] [] (.bool (aG p m i)):=by
 refine EN m437 Tryz.func90 ?_
 unfold m437
 have hw:qL (i:Int) 0 (m.cores.length-1)=true:=by rw [qK]; omega
 have hcg:=uY .bw m.cores i hi
 have hk:m.cores.getD i default=qJ m i:=rfl
 rw [hk] at hcg
 rw [qQb,hw,Bool.true_and]
 simp only [go_sem,seval]
 refine CA [] (qJt m i hl) ?_
 try simp only [go_sem,seval]
 try simp only [go_sem,seval,hw,hcg]
 repeat refine K ?_
 refine DA [] (sQ p i (qJ m i).at_ hp) ?_
 try simp only [go_sem,seval]
 repeat refine K ?_
 try simp only [go_sem,seval,hcg]
 by_cases hst:(qJ m i).st=0
 ·try simp only [go_sem,seval,hst,hcg]
  refine fz ?_; simp [qZ,qQ,qR,qN,-List.drop_one]
 ·try simp only [go_sem,seval,hst,hcg]
  refine fz ?_; simp [qZ,qQ,qR,qN,-List.drop_one]
end Go.Sep
