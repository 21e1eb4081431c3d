/- Contracts of functions. -/
import Derived.Test.YtebbppogicgpkaaGreatUxx8
open Bool renaming and_eq_true → qXo
open List renaming drop_one → qZ8, getD_eq_getElem?_getD → qXq
namespace Go.Sep
set_option maxHeartbeats 16000000
open Go.Proofs
set_option linter.unusedSimpArgs false
set_option linter.unusedVariables false
set_option maxRecDepth 100000
open Nat renaming reduceAdd → qA, reduceMul → qB, reduceEqDiff → qC, reduceBEq → qD
open Int renaming reduceToNat → qE, reduceEq → qF, reduceLT → qG, reduceLE → qH
open List renaming getD_eq_getElem?_getD → gD
theorem dF (p:wV) (s:wL):wO p s=true↔jX p=true∧s.ths.length=p.bods.length∧s.chs.length=p.caps.length∧bJ s.tr s.ths.length=true∧
  (∀i,i<s.ths.length→vT (p.bods.getD i []) (s.ths.getD i default)=true)∧(∀j,j<s.chs.length→vK (s.chs.getD j default)=true∧(s.chs.getD j default).cap=p.caps.getD j 0):=by
 simp only [wO,qXo,decide_eq_true_eq,List.all_eq_true,List.mem_range]
 constructor
 ·rintro ⟨⟨⟨⟨⟨a,b⟩,c⟩,d⟩,e⟩,f⟩
  exact ⟨a,b,c,d,e,f⟩
 ·rintro ⟨a,b,c,d,e,f⟩
  exact ⟨⟨⟨⟨⟨a,b⟩,c⟩,d⟩,e⟩,f⟩
theorem nL {α:Type} (l:List α) (i j:Nat) (x d:α) (h:i<l.length):(l.set i x).getD j d=if j=i then x else l.getD j d:=by
 simp only [qXq,List.getElem?_set]
 by_cases hij:i=j
 ·subst hij
  simp [h]
 ·simp [hij,Ne.symm hij]
theorem qE5 {p:wV} {s:wL} {i:Nat} {t:vA} (h:wO p s=true) (hi:i<s.ths.length) (ht:vT (p.bods.getD i []) t=true):wO p ⟨s.ths.set i t,s.chs,s.tr⟩=true:=by
 rw [dF] at h⊢
 obtain ⟨a,b,c,d,e,f⟩:=h
 refine ⟨a,by simpa using b,c,by simpa using d,fun j hj=>?_,f⟩
 simp only at hj⊢
 rw [nL _ _ _ _ _ hi]
 split
 ·rename_i hji; rw [hji]; exact ht
 ·exact e j (by simpa using hj)
theorem qSf {p:wV} {s:wL} {j:Nat} {c':bS} (h:wO p s=true) (hj:j<s.chs.length) (hc:vK c'=true) (hcap:c'.cap=(s.chs.getD j default).cap):wO p ⟨s.ths,s.chs.set j c',s.tr⟩=true:=by
 rw [dF] at h⊢
 obtain ⟨a,b,c,d,e,f⟩:=h
 refine ⟨a,b,by simpa using c,d,e,fun k hk=>?_⟩
 simp only at hk⊢
 rw [nL _ _ _ _ _ hj]
 split
 ·rename_i hkj; rw [hkj]; exact ⟨hc,by rw [hcap]; exact (f j hj).2⟩
 ·exact f k (by simpa using hk)
theorem qWl {p:wV} {s:wL} {n:aP} (h:wO p s=true) (hn:0≤n.who∧n.who<s.ths.length) (hl:s.tr.length<4000):wO p ⟨s.ths,s.chs,s.tr++[n]⟩=true:=by
 rw [dF] at h⊢
 obtain ⟨a,b,c,d,e,f⟩:=h
 refine ⟨a,b,c,?_,e,f⟩
 simp only [bJ,qXo,decide_eq_true_eq,List.all_append,List.all_cons,List.all_nil,Bool.and_true] at d⊢
 refine ⟨⟨d.1,by rw [qO]; omega⟩,by simp; omega⟩
theorem qA2 {p:wV} {s:wL} {i:Nat} {t:vA} {ok:Bool} {bB:Int} (h:wO p s=true) (hi:i<s.ths.length) (hr:t.regs.length=4) (hst:0≤t.st∧t.st≤2) (hat:0≤t.at_∧t.at_<(p.bods.getD i []).length) (hn:0≤bB):wO p (eC p s i t ok bB)=true:=by
 unfold eC
 split
 ·exact qE5 h hi (by simp only [vT,qXo,decide_eq_true_eq,qO]; omega)
 ·rename_i hh
  have:bB<(p.bods.getD i []).length:=by
   rcases Int.lt_or_le bB (p.bods.getD i []).length with h1 | h1
   ·exact h1
   ·exact absurd (.inr h1) hh
  exact qE5 h hi (by simp only [vT,qXo,decide_eq_true_eq,qO]; omega)
theorem qMn {c:bS} {v:Int} (h:vK c=true):vK (yD c v).1=true∧(yD c v).1.cap=c.cap:=by
 have h2:=qBr h
 rw [fI c v h]
 split
 ·exact ⟨h,rfl⟩
 ·split
  ·exact ⟨h,rfl⟩
  ·refine ⟨?_,rfl⟩
   simp only [vK,qXo,qO,decide_eq_true_eq] at h⊢
   refine ⟨h.1,?_⟩
   simp
   omega
theorem qMl {c:bS} (h:vK c=true):vK (wM c).1=true∧(wM c).1.cap=c.cap:=by
 unfold wM
 rw [if_neg (by rw [h]; simp)]
 split
 ·refine ⟨?_,rfl⟩
  simp only [vK,qXo,qO,decide_eq_true_eq] at h⊢
  refine ⟨h.1,?_⟩
  simp only [List.length_drop]
  omega
 ·split<;>exact ⟨h,rfl⟩
theorem qJz {c:bS} (h:vK c=true):vK (vF c).1=true∧(vF c).1.cap=c.cap:=by
 unfold vF
 split
 ·exact ⟨h,rfl⟩
 ·exact ⟨h,rfl⟩
theorem qMm {t:vA} {c:bS} {x:Ins} (h:vK c=true):vK (wW t c x).2.1=true∧(wW t c x).2.1.cap=c.cap:=by
 unfold wW
 split
 ·exact qMn h
 ·split
  ·exact qMl h
  ·exact qJz h
theorem qFj (t:vA) (c:bS) (x:Ins):(wW t c x).1.regs.length=t.regs.length∧(wW t c x).1.st=t.st∧(wW t c x).1.at_=t.at_:=by
 unfold wW
 split
 ·simp only
  split<;>simp [wX]
 ·split
  ·simp only
   split<;>simp [wX]
  ·exact ⟨rfl,rfl,rfl⟩
theorem oA {p:wV} {s:wL} {i:Nat} (h:wO p s=true) (hi:i<s.ths.length) (ht:(ins p s i).op=10→s.tr.length<4000):wO p (yY p s i)=true:=by
 have ha:=qLa h hi
 have e1:=ha.at0
 have e2:=ha.at1
 have e4:=ha.regs
 have hth:=((dF p s).1 h).2.2.2.2.1 i hi
 simp only [vT,qXo,decide_eq_true_eq,qO] at hth
 obtain ⟨⟨_,hst⟩,hat⟩:=hth
 have hat':0≤(s.ths.getD i default).at_∧(s.ths.getD i default).at_<(p.bods.getD i []).length:=by omega
 have hself :∀r v,(wX (s.ths.getD i default) r v).regs.length=4:=fun r v=>by simp only [wX,List.length_set]; exact e4
 unfold yY
 split
 ·exact qA2 h hi (hself _ _) hst hat' (by omega)
 split
 ·exact qA2 h hi (hself _ _) hst hat' (by omega)
 split
 ·rename_i h10
  exact qA2 (qWl h ⟨by simp,by simp; exact hi⟩ (ht h10)) hi e4 hst hat' (by omega)
 split
 ·rename_i h11
  exact qA2 h hi e4 hst hat' (ha.jm (.inl h11)).1
 split
 ·rename_i h12
  exact qA2 h hi e4 hst hat' (by have:=(ha.jm (.inr h12)).1; split<;>omega)
 split
 ·exact qE5 h hi (by simp only [vT,qXo,decide_eq_true_eq,qO]; omega)
 ·rename_i h1 h2 h10 h11 h12 h13
  obtain ⟨n0,n1⟩:=ha.ch (by have:=ha.op; omega) (by have:=ha.op; omega)
  have hc:=qL5 h n1
  obtain ⟨q1,q2⟩:=qMm (t:=s.ths.getD i default) (x:=ins p s i) hc
  obtain ⟨r1,r2,r3⟩:=qFj (s.ths.getD i default) (s.chs.getD (ins p s i).n.toNat default) (ins p s i)
  exact qA2 (qSf h n1 q1 q2) hi (by rw [r1]; exact e4) (by rw [r2]; exact hst) (by rw [r3]; exact hat') (by omega)
theorem oO {p:wV} {s:wL} (h:wO p s=true):iF s:=by
 have hn:=fN h
 rw [dF] at h
 obtain ⟨a,b,c,d,e,f⟩:=h
 simp only [jX,qXo,decide_eq_true_eq,qO] at a
 refine ⟨by omega,by omega,by omega,fun t ht=>?_,fun c' hc'=>?_⟩
 ·obtain ⟨i,hi,rfl⟩:=List.getElem_of_mem ht
  have:=e i hi
  simp only [vT,qXo,decide_eq_true_eq] at this
  have hg:s.ths.getD i default=s.ths[i]:=by simp [qXq,hi]
  rw [hg] at this
  omega
 ·obtain ⟨i,hi,rfl⟩:=List.getElem_of_mem hc'
  have:=qBr (f i hi).1
  have h2:=(f i hi).1
  simp only [vK,qXo,qO] at h2
  have hg:s.chs.getD i default=s.chs[i]:=by simp [qXq,hi]
  rw [hg] at this h2
  omega
def m25:MFn:=⟨43,[.cell 6 3 true,.t 7],kr [xb 3 0,xb 4 1,xo 6 (.alloc [.nil,.nil,.nil]),xo 7 (.mv (.c (.nil)))] (kr [xm 13 3 4,xc1 14 49 (.t 13),xo 8 (.alloc [.nil,.nil,.nil]),xS 3 8 14] (kr [xo 15 (.mkSl [xz] 0 []),xv 9 15] (.seq (kr [xv 16 2,xe 17 16,bI 18 .gtr 17 4000,xv 19 18,xg 20 (.load 2 true (.t 3)) 19 false,xg 21 (.load 3 true (.t 4)) 19 false,xg 22 (.call 50 [false,false] [.t 20,.t 21]) 19 false,zN 23 22 19,xQ 24 19 23] (kF 24 [xm 25 3 8,xv 26 9,xS 3 6 25,xv 7 26])) (.seq (kr [xv 27 2,xe 28 27,xI 29 0] (.blk 0 (.loop (kr [bT 30 .lss 29 28] (.seq (kX 30 0) (.seq (.blk 1 (kr [xD 31 1 27 29,xl 32 31,xv 11 32] (kr [xm 33 2 3,xv 34 11,xo 35 (.call 43 [false,true,false] [.t 33,.t 8,.t 34]),xv 12 35] (xr [xv 36 9,xv 37 12,xo 38 (.mkSl [xz] 1 [(0,.t 37)]),xA 39 1 8 36 38,xv 9 39])))) (xr [bI 40 .add 29 1,xv 29 40]))))))) (kR [xm 41 3 8,xv 42 9,xS 3 6 41,xv 7 42])))))⟩
theorem lX (l:List Int) (n:Int):wS l++[[.int .i64 n]]=wS (l++[n]):=by simp [wS]
def uT (p:wV) (st:wL×List Int) (who:Int):wL×List Int:=((wP p st.1 who).1,st.2++[(wP p st.1 who).2])
def qWk (p:wV) (s:wL) (picks:List Int):wL×List Int:=picks.foldl (uT p) (s,[])
def gY (p:wV) (s:wL) (picks:List Int):wL×List Int:=if wO p s&&decide ((picks.length:Int)≤4000) then qWk p s picks else (s,[])
theorem oN {p:wV} {s:wL} (who:Int) (h:wO p s=true):wO p (wP p s who).1=true:=by
 unfold wP
 split
 ·rename_i hc
  obtain ⟨w0,w1⟩:=qRr hc
  refine oA h w1 fun h10=>?_
  have hn:=fN h
  unfold jI at hc
  split at hc
  ·simp at hc
  ·split at hc
   ·simp at hc
   ·rename_i hx
    have :¬(s.tr.length:Int)=4000:=fun e=>hx (.inr ⟨h10,e⟩)
    omega
 ·exact h
theorem qB8 {p:wV} {s:wL} (h:wO p s=true) (picks:List Int) :∀i,i≤picks.length→wO p ((picks.take i).foldl (uT p) (s,[])).1=true∧((picks.take i).foldl (uT p) (s,[])).2.length=i
 | 0,_=>⟨h,rfl⟩
 | i+1,hi=>by
  have ih:=qB8 h picks i (by omega)
  rw [uZ picks 0 i (by omega),List.foldl_append]
  exact ⟨oN _ ih.1,by simp only [List.foldl_cons,List.foldl_nil,uT,List.length_append,ih.2]; rfl⟩
theorem qNc (p:wV) (picks:List Int) (i:Nat) (h:i<picks.length) (st:wL×List Int):(picks.take (i+1)).foldl (uT p) st=uT p ((picks.take i).foldl (uT p) st) (picks.getD i 0):=by
 rw [uZ picks 0 i h,List.foldl_append]
 rfl
theorem qEh (p:wV) (s:wL) (picks:List Int) (hp:uD p) (hs:iF s) (h4:picks.length<2^40) :
  qU Tryz.prog num 25 [.agg (jA .bw p),.agg (yM .bw s),.sl .bw 1 (wS picks)] [] (.tup [.agg (yM .own (gY p s picks).1),.sl .own 1 (wS (gY p s picks).2)]):=by
 refine EN m25 Tryz.func20 ?_
 unfold m25
 simp only [go_sem,seval]
 refine CA [] (qJw s hs) ?_
 try simp only [go_sem,seval]
 by_cases hl:(4000:Int)<picks.length
 ·have hl' :¬(picks.length:Int)≤4000:=by omega
  try simp only [go_sem,seval,hl]
  apply wG (by simp)
  ·exact Sub.refl _
  ·simp [-qZ8,-gD,gY,hl',uA]<;>(first | rfl | exact ⟨rfl,rfl⟩ | exact ⟨rfl,rfl,rfl⟩ | skip)
 have hl':(picks.length:Int)≤4000:=by omega
 try simp only [go_sem,seval,hl]
 refine CA [] (sD p s hp hs) ?_
 try simp only [go_sem,seval]
 cases hok:wO p s
 ·try simp only [go_sem,seval,hok]
  apply wG (by simp)
  ·exact Sub.refl _
  ·simp [-qZ8,-gD,gY,hok,uA]<;>(first | rfl | exact ⟨rfl,rfl⟩ | exact ⟨rfl,rfl,rfl⟩ | skip)
 try simp only [go_sem,seval,hok]
 refine wC (ι:=Nat) (fun i=>.mk [(3,.ptr 10 0 0),(6,.ptr 12 0 0),(8,.ptr 16 0 0),(9,.ns 17 0 i),(27,.sl .bw 1 (wS picks)),(28,.int .i64 picks.length),(29,.int .i64 i)] [(10,2,[jA .bw p]),(12,3,[[.nil,.nil,.nil]]),(16,3,[yM .own ((picks.take i).foldl (uT p) (s,[])).1]),(17,1,wS ((picks.take i).foldl (uT p) (s,[])).2)] 18) (fun i=>i≤picks.length) (fun i=>picks.length-i) 0 (by simp) ?_ ?_
 ·refine Sub.trans (Sub.fold1 16 0 13 rfl (by simp [-gD]<;>omega) rfl (by decide) (by decide) rfl) ?_
  simp only [fS,qA,qC]
  refine Sub.trans (Sub.fold1 16 1 14 rfl (by simp [-gD]<;>omega) rfl (by decide) (by decide) rfl) ?_
  simp only [fS,qA,qC]
  refine Sub.trans (Sub.fold1 16 2 15 rfl (by simp [-gD]<;>omega) rfl (by decide) (by decide) rfl) ?_
  simp only [fS,qA,qC]
  refine Sub.shape [] id (by omega) ?_ ?_ ?_ ?_<;>simp [qM]
  exact .inl rfl
 ·intro i hi
  have hr:=qB8 hok picks i hi
  have hstep:=fun h=>qNc p picks i h (s,[])
  have hfin :¬(i:Int)<picks.length→(picks.take i).foldl (uT p) (s,[])=qWk p s picks:=fun h=>by rw [List.take_of_length_le (by omega)]; rfl
  generalize (picks.take i).foldl (uT p) (s,[])=st at hr hstep hfin
  obtain ⟨hso,hlen⟩:=hr
  have hss:=oO hso
  have htr:=fN hso
  simp only [go_sem,seval]
  refine qP (fun hc=>?_) (fun hc=>?_)
  ·simp only [decide_eq_true_eq] at hc
   have hl2:i<picks.length:=by omega
   simp only [go_sem,seval,qI picks i hl2]
   repeat refine K ?_
   refine CA [(0,16)] (qJd p st.1 (picks.getD i 0) hp hss hso htr) ?_
   try simp only [go_sem,seval]
   repeat refine K ?_
   try simp only [go_sem,seval,qV (i:=i) (by omega),hlen]
   refine qW (i+1) ?_ hl2 (by omega)
   simp only [hstep hl2,uT]
   refine Sub.shape [] (fun n=>if n=17 then 19 else n) (by omega) ?_ ?_ ?_ ?_<;>simp [qM]
   all_goals exact .inl (lX _ _)
  ·simp only [decide_eq_false_iff_not] at hc
   have hf:=hfin hc
   simp only [go_sem,seval]
   apply wG (by simp)
   ·exact Sub.refl _
   ·simp [-qZ8,-gD,gY,hok,hl',hlen,←hf]<;>(first | rfl | exact ⟨rfl,rfl⟩ | exact ⟨rfl,rfl,rfl⟩ | skip)
end Go.Sep
