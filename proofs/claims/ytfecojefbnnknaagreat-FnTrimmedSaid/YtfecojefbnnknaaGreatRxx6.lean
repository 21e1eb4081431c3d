/- Contracts of functions. -/
import Derived.Test.YtfecojefbnnknaaGreatRxx5
open Bool renaming and_eq_true → wBp
open List renaming drop_one → wD9, foldl_append → wDi, getD_eq_getElem?_getD → wBr, getElem_of_mem → wDh, take_of_length_le → wBy
namespace Go.Sep
set_option maxHeartbeats 16000000
open Go.Proofs
set_option linter.unusedSimpArgs false
set_option linter.unusedVariables false
set_option maxRecDepth 100000
open Nat renaming reduceAdd → qA, reduceMul → qB, reduceEqDiff → qC, reduceBEq → qD
open Int renaming reduceToNat → qE, reduceEq → qF, reduceLT → qG, reduceLE → qH
open List renaming getD_eq_getElem?_getD → gD
@[simp] def wBb (s:wA):AV:=.agg [.ns 0 0 s.ths.length,.ns 1 0 s.chs.length,.ns 2 0 s.tr.length]
@[simp] def wBc (s:wA):FP:=[(0,some (3,yH .own s.ths),none),(1,some (3,wH .own s.chs),none),(2,some (2,yY s.tr),none)]
theorem qQn (c:jZ) (v:Int) (h:jT c=true):yD c v=if c.closed then (c,2) else if (c.list.length:Int)=c.cap then (c,1) else ({c with list:=c.list++[v]},0):=by
 unfold yD
 cases hc:c.closed<;>simp [-wBr,h]
theorem qUo {p:wQ} {s:wA} (h:wG p s=true) {j:Nat} (hj:j<s.chs.length):jT (s.chs.getD j default)=true:=by
 simp only [wG,wBp] at h
 have:=List.all_eq_true.1 h.2 j (List.mem_range.2 hj)
 simp only [wBp] at this
 exact this.1
theorem qGh {c:jZ} (h:jT c=true):1≤c.cap∧(c.list.length:Int)≤c.cap:=by
 simp only [jT,wBp,qL,decide_eq_true_eq] at h
 omega
theorem oH {p:wQ} {s:wA} (h:wG p s=true):s.tr.length≤4000:=by
 simp only [wG,zV,wBp,decide_eq_true_eq] at h
 omega
theorem jX {α:Type} (l:List α) (d:α) (i:Nat) (h:i<l.length):l.take (i+1)=l.take i++[l.getD i d]:=by
 rw [List.take_succ_eq_append_getElem h]
 simp [wBr,h]
def sI {α:Type} (w:α→Nat):List α→Nat
 | []=>0
 | a::l=>w a+sI w l
def mks {α:Type} (w:α→Nat) (f:Int→α→α):Int→List α→List α
 | _,[]=>[]
 | k,a::l=>f k a::mks w f (k+w a) l
@[simp] theorem qPy {α:Type} (w:α→Nat) (f:Int→α→α) :∀(k:Int) (l:List α),(mks w f k l).length=l.length
 | _,[]=>rfl
 | k,b::l=>by simp [mks,qPy]
@[simp] theorem wAr {α:Type} (w:α→Nat) (f:Int→α→α) (k:Int) (l:List α):(mks w f k l).take l.length=mks w f k l:=wBy (by simp)
def wAm (_x:bP):Nat:=2
def qTu (k:Int) (_x:bP):bP:=⟨k,k+1⟩
theorem jE (p:wQ) (s:wA):wG p s=true↔yR p=true∧s.ths.length=p.bods.length∧s.chs.length=p.caps.length∧zV s.tr s.ths.length=true∧
  (∀i,i<s.ths.length→uC (p.bods.getD i []) (s.ths.getD i default)=true)∧(∀j,j<s.chs.length→jT (s.chs.getD j default)=true∧(s.chs.getD j default).cap=p.caps.getD j 0):=by
 simp only [wG,wBp,decide_eq_true_eq,List.all_eq_true,List.mem_range]
 constructor
 ·rintro ⟨⟨⟨⟨⟨a,b⟩,c⟩,d⟩,e⟩,f⟩
  exact ⟨a,b,c,d,e,f⟩
 ·rintro ⟨a,b,c,d,e,f⟩
  exact ⟨⟨⟨⟨⟨a,b⟩,c⟩,d⟩,e⟩,f⟩
theorem iN {α:Type} (l:List α) (i j:Nat) (x d:α) (h:i<l.length):(l.set i x).getD j d=if j=i then x else l.getD j d:=by
 simp only [wBr,List.getElem?_set]
 by_cases hij:i=j
 ·subst hij
  simp [h]
 ·simp [hij,Ne.symm hij]
theorem qBu {p:wQ} {s:wA} {i:Nat} {t:yP} (h:wG p s=true) (hi:i<s.ths.length) (ht:uC (p.bods.getD i []) t=true):wG p ⟨s.ths.set i t,s.chs,s.tr⟩=true:=by
 rw [jE] at h⊢
 obtain ⟨a,b,c,d,e,f⟩:=h
 refine ⟨a,by simpa using b,c,by simpa using d,fun j hj=>?_,f⟩
 simp only at hj⊢
 rw [iN _ _ _ _ _ hi]
 split
 ·rename_i hji; rw [hji]; exact ht
 ·exact e j (by simpa using hj)
theorem qTj {p:wQ} {s:wA} {j:Nat} {c':jZ} (h:wG p s=true) (hj:j<s.chs.length) (hc:jT c'=true) (hcap:c'.cap=(s.chs.getD j default).cap):wG p ⟨s.ths,s.chs.set j c',s.tr⟩=true:=by
 rw [jE] at h⊢
 obtain ⟨a,b,c,d,e,f⟩:=h
 refine ⟨a,b,by simpa using c,d,e,fun k hk=>?_⟩
 simp only at hk⊢
 rw [iN _ _ _ _ _ hj]
 split
 ·rename_i hkj; rw [hkj]; exact ⟨hc,by rw [hcap]; exact (f j hj).2⟩
 ·exact f k (by simpa using hk)
theorem wA4 {p:wQ} {s:wA} {n:bP} (h:wG p s=true) (hn:0≤n.who∧n.who<s.ths.length) (hl:s.tr.length<4000):wG p ⟨s.ths,s.chs,s.tr++[n]⟩=true:=by
 rw [jE] at h⊢
 obtain ⟨a,b,c,d,e,f⟩:=h
 refine ⟨a,b,c,?_,e,f⟩
 simp only [zV,wBp,decide_eq_true_eq,List.all_append,List.all_cons,List.all_nil,Bool.and_true] at d⊢
 refine ⟨⟨d.1,by rw [qL]; omega⟩,by simp; omega⟩
theorem pV {p:wQ} {s:wA} {i:Nat} {t:yP} {ok:Bool} {next:Int} (h:wG p s=true) (hi:i<s.ths.length) (hr:t.regs.length=4) (hst:0≤t.st∧t.st≤2) (hat:0≤t.at_∧t.at_<(p.bods.getD i []).length) (hn:0≤next):wG p (vQ p s i t ok next)=true:=by
 unfold vQ
 split
 ·exact qBu h hi (by simp only [uC,wBp,decide_eq_true_eq,qL]; omega)
 ·rename_i hh
  have:next<(p.bods.getD i []).length:=by
   rcases Int.lt_or_le next (p.bods.getD i []).length with h1 | h1
   ·exact h1
   ·exact absurd (.inr h1) hh
  exact qBu h hi (by simp only [uC,wBp,decide_eq_true_eq,qL]; omega)
theorem qLr {c:jZ} {v:Int} (h:jT c=true):jT (yD c v).1=true∧(yD c v).1.cap=c.cap:=by
 have h2:=qGh h
 rw [qQn c v h]
 split
 ·exact ⟨h,rfl⟩
 ·split
  ·exact ⟨h,rfl⟩
  ·refine ⟨?_,rfl⟩
   simp only [jT,wBp,qL,decide_eq_true_eq] at h⊢
   refine ⟨h.1,?_⟩
   simp
   omega
theorem qLp {c:jZ} (h:jT c=true):jT (wP c).1=true∧(wP c).1.cap=c.cap:=by
 unfold wP
 rw [if_neg (by rw [h]; simp)]
 split
 ·refine ⟨?_,rfl⟩
  simp only [jT,wBp,qL,decide_eq_true_eq] at h⊢
  refine ⟨h.1,?_⟩
  simp only [List.length_drop]
  omega
 ·split<;>exact ⟨h,rfl⟩
theorem qI0 {c:jZ} (h:jT c=true):jT (vN c).1=true∧(vN c).1.cap=c.cap:=by
 unfold vN
 split
 ·exact ⟨h,rfl⟩
 ·exact ⟨h,rfl⟩
theorem qLq {t:yP} {c:jZ} {x:Ins} (h:jT c=true):jT (wC t c x).2.1=true∧(wC t c x).2.1.cap=c.cap:=by
 unfold wC
 split
 ·exact qLr h
 ·split
  ·exact qLp h
  ·exact qI0 h
theorem qDc (t:yP) (c:jZ) (x:Ins):(wC t c x).1.regs.length=t.regs.length∧(wC t c x).1.st=t.st∧(wC t c x).1.at_=t.at_:=by
 unfold wC
 split
 ·simp only
  split<;>simp [wV]
 ·split
  ·simp only
   split<;>simp [wV]
  ·exact ⟨rfl,rfl,rfl⟩
theorem kB {p:wQ} {s:wA} {i:Nat} (h:wG p s=true) (hi:i<s.ths.length) (ht:(ins p s i).op=10→s.tr.length<4000):wG p (wN p s i)=true:=by
 have ha:=qB4 h hi
 have e1:=ha.at0
 have e2:=ha.at1
 have e4:=ha.regs
 have hth:=((jE p s).1 h).2.2.2.2.1 i hi
 simp only [uC,wBp,decide_eq_true_eq,qL] at hth
 obtain ⟨⟨_,hst⟩,hat⟩:=hth
 have hat':0≤(s.ths.getD i default).at_∧(s.ths.getD i default).at_<(p.bods.getD i []).length:=by omega
 have hself :∀r v,(wV (s.ths.getD i default) r v).regs.length=4:=fun r v=>by simp only [wV,List.length_set]; exact e4
 unfold wN
 split
 ·exact pV h hi (hself _ _) hst hat' (by omega)
 split
 ·exact pV h hi (hself _ _) hst hat' (by omega)
 split
 ·rename_i h10
  exact pV (wA4 h ⟨by simp,by simp; exact hi⟩ (ht h10)) hi e4 hst hat' (by omega)
 split
 ·rename_i h11
  exact pV h hi e4 hst hat' (ha.jm (.inl h11)).1
 split
 ·rename_i h12
  exact pV h hi e4 hst hat' (by have:=(ha.jm (.inr h12)).1; split<;>omega)
 split
 ·exact qBu h hi (by simp only [uC,wBp,decide_eq_true_eq,qL]; omega)
 ·rename_i h1 h2 h10 h11 h12 h13
  obtain ⟨n0,n1⟩:=ha.ch (by have:=ha.op; omega) (by have:=ha.op; omega)
  have hc:=qUo h n1
  obtain ⟨q1,q2⟩:=qLq (t:=s.ths.getD i default) (x:=ins p s i) hc
  obtain ⟨r1,r2,r3⟩:=qDc (s.ths.getD i default) (s.chs.getD (ins p s i).n.toNat default) (ins p s i)
  exact pV (qTj h n1 q1 q2) hi (by rw [r1]; exact e4) (by rw [r2]; exact hst) (by rw [r3]; exact hat') (by omega)
theorem tZ {p:wQ} {s:wA} (h:wG p s=true):qK1 s:=by
 have hn:=oH h
 rw [jE] at h
 obtain ⟨a,b,c,d,e,f⟩:=h
 simp only [yR,wBp,decide_eq_true_eq,qL] at a
 refine ⟨by omega,by omega,by omega,fun t ht=>?_,fun c' hc'=>?_⟩
 ·obtain ⟨i,hi,rfl⟩:=wDh ht
  have:=e i hi
  simp only [uC,wBp,decide_eq_true_eq] at this
  have hg:s.ths.getD i default=s.ths[i]:=by simp [wBr,hi]
  rw [hg] at this
  omega
 ·obtain ⟨i,hi,rfl⟩:=wDh hc'
  have:=qGh (f i hi).1
  have h2:=(f i hi).1
  simp only [jT,wBp,qL] at h2
  have hg:s.chs.getD i default=s.chs[i]:=by simp [wBr,hi]
  rw [hg] at this h2
  omega
def m25:MFn:=⟨43,[.cell 6 3 true,.t 7],kr [xb 3 0,xb 4 1,xo 6 (.alloc [.nil,.nil,.nil]),xo 7 (.mv (.c (.nil)))] (kr [xm 13 3 4,xc1 14 49 (.t 13),xo 8 (.alloc [.nil,.nil,.nil]),xS 3 8 14] (kr [xo 15 (.mkSl [xz] 0 []),xv 9 15] (.seq (kr [xv 16 2,xe 17 16,bI 18 .gtr 17 4000,xv 19 18,xg 20 (.load 2 true (.t 3)) 19 false,xg 21 (.load 3 true (.t 4)) 19 false,xg 22 (.call 50 [false,false] [.t 20,.t 21]) 19 false,zN 23 22 19,xQ 24 19 23] (kF 24 [xm 25 3 8,xv 26 9,xS 3 6 25,xv 7 26])) (.seq (kr [xv 27 2,xe 28 27,xI 29 0] (.blk 0 (.loop (kr [bT 30 .lss 29 28] (.seq (kX 30 0) (.seq (.blk 1 (kr [xD 31 1 27 29,xl 32 31,xv 11 32] (kr [xm 33 2 3,xv 34 11,xo 35 (.call 43 [false,true,false] [.t 33,.t 8,.t 34]),xv 12 35] (xr [xv 36 9,xv 37 12,xo 38 (.mkSl [xz] 1 [(0,.t 37)]),xA 39 1 8 36 38,xv 9 39])))) (xr [bI 40 .add 29 1,xv 29 40]))))))) (kR [xm 41 3 8,xv 42 9,xS 3 6 41,xv 7 42])))))⟩
theorem eF (l:List Int) (n:Int):wE l++[[.int .i64 n]]=wE (l++[n]):=by simp [wE]
def zK (p:wQ) (st:wA×List Int) (who:Int):wA×List Int:=((qX p st.1 who).1,st.2++[(qX p st.1 who).2])
def qY9 (p:wQ) (s:wA) (picks:List Int):wA×List Int:=picks.foldl (zK p) (s,[])
def bH (p:wQ) (s:wA) (picks:List Int):wA×List Int:=if wG p s&&decide ((picks.length:Int)≤4000) then qY9 p s picks else (s,[])
theorem dV {p:wQ} {s:wA} (who:Int) (h:wG p s=true):wG p (qX p s who).1=true:=by
 unfold qX
 split
 ·rename_i hc
  obtain ⟨w0,w1⟩:=qEe hc
  refine kB h w1 fun h10=>?_
  have hn:=oH h
  unfold wU at hc
  split at hc
  ·simp at hc
  ·split at hc
   ·simp at hc
   ·rename_i hx
    have :¬(s.tr.length:Int)=4000:=fun e=>hx (.inr ⟨h10,e⟩)
    omega
 ·exact h
theorem sL {p:wQ} {s:wA} (h:wG p s=true) (picks:List Int) :∀i,i≤picks.length→wG p ((picks.take i).foldl (zK p) (s,[])).1=true∧((picks.take i).foldl (zK p) (s,[])).2.length=i
 | 0,_=>⟨h,rfl⟩
 | i+1,hi=>by
  have ih:=sL h picks i (by omega)
  rw [jX picks 0 i (by omega),wDi]
  exact ⟨dV _ ih.1,by simp only [List.foldl_cons,List.foldl_nil,zK,List.length_append,ih.2]; rfl⟩
theorem qVm (p:wQ) (picks:List Int) (i:Nat) (h:i<picks.length) (st:wA×List Int):(picks.take (i+1)).foldl (zK p) st=zK p ((picks.take i).foldl (zK p) st) (picks.getD i 0):=by
 rw [jX picks 0 i h,wDi]
 rfl
theorem lF (p:wQ) (s:wA) (picks:List Int) (hp:aW p) (hs:qK1 s) (h4:picks.length<2^40) :
  qY Tryz.prog num 25 [.agg (jY .bw p),.agg (uD .bw s),.sl .bw 1 (wE picks)] [] (.tup [.agg (uD .own (bH p s picks).1),.sl .own 1 (wE (bH p s picks).2)]):=by
 refine EN m25 Tryz.func25 ?_
 unfold m25
 simp only [go_sem,seval]
 refine CA [] (qHx s hs) ?_
 try simp only [go_sem,seval]
 by_cases hl:(4000:Int)<picks.length
 ·have hl' :¬(picks.length:Int)≤4000:=by omega
  try simp only [go_sem,seval,hl]
  apply qEc (by simp)
  ·exact Sub.refl _
  ·simp [-wD9,-gD,bH,hl',qAl]<;>(first | rfl | exact ⟨rfl,rfl⟩ | exact ⟨rfl,rfl,rfl⟩ | skip)
 have hl':(picks.length:Int)≤4000:=by omega
 try simp only [go_sem,seval,hl]
 refine CA [] (qDr p s hp hs) ?_
 try simp only [go_sem,seval]
 cases hok:wG p s
 ·try simp only [go_sem,seval,hok]
  apply qEc (by simp)
  ·exact Sub.refl _
  ·simp [-wD9,-gD,bH,hok,qAl]<;>(first | rfl | exact ⟨rfl,rfl⟩ | exact ⟨rfl,rfl,rfl⟩ | skip)
 try simp only [go_sem,seval,hok]
 refine qZ (ι:=Nat) (fun i=>.mk [(3,.ptr 10 0 0),(6,.ptr 12 0 0),(8,.ptr 16 0 0),(9,.ns 17 0 i),(27,.sl .bw 1 (wE picks)),(28,.int .i64 picks.length),(29,.int .i64 i)] [(10,2,[jY .bw p]),(12,3,[[.nil,.nil,.nil]]),(16,3,[uD .own ((picks.take i).foldl (zK p) (s,[])).1]),(17,1,wE ((picks.take i).foldl (zK p) (s,[])).2)] 18) (fun i=>i≤picks.length) (fun i=>picks.length-i) 0 (by simp) ?_ ?_
 ·refine Sub.trans (Sub.fold1 16 0 13 rfl (by simp [-gD]<;>omega) rfl (by decide) (by decide) rfl) ?_
  simp only [fS,qA,qC]
  refine Sub.trans (Sub.fold1 16 1 14 rfl (by simp [-gD]<;>omega) rfl (by decide) (by decide) rfl) ?_
  simp only [fS,qA,qC]
  refine Sub.trans (Sub.fold1 16 2 15 rfl (by simp [-gD]<;>omega) rfl (by decide) (by decide) rfl) ?_
  simp only [fS,qA,qC]
  refine Sub.shape [] id (by omega) ?_ ?_ ?_ ?_<;>simp [qK]
  exact .inl rfl
 ·intro i hi
  have hr:=sL hok picks i hi
  have hstep:=fun h=>qVm p picks i h (s,[])
  have hfin :¬(i:Int)<picks.length→(picks.take i).foldl (zK p) (s,[])=qY9 p s picks:=fun h=>by rw [wBy (by omega)]; rfl
  generalize (picks.take i).foldl (zK p) (s,[])=st at hr hstep hfin
  obtain ⟨hso,hlen⟩:=hr
  have hss:=tZ hso
  have htr:=oH hso
  simp only [go_sem,seval]
  refine qP (fun hc=>?_) (fun hc=>?_)
  ·simp only [decide_eq_true_eq] at hc
   have hl2:i<picks.length:=by omega
   simp only [go_sem,seval,qI picks i hl2]
   repeat refine K ?_
   refine CA [(0,16)] (qHh p st.1 (picks.getD i 0) hp hss hso htr) ?_
   try simp only [go_sem,seval]
   repeat refine K ?_
   try simp only [go_sem,seval,qN (i:=i) (by omega),hlen]
   refine qM (i+1) ?_ hl2 (by omega)
   simp only [hstep hl2,zK]
   refine Sub.shape [] (fun n=>if n=17 then 19 else n) (by omega) ?_ ?_ ?_ ?_<;>simp [qK]
   all_goals exact .inl (eF _ _)
  ·simp only [decide_eq_false_iff_not] at hc
   have hf:=hfin hc
   simp only [go_sem,seval]
   apply qEc (by simp)
   ·exact Sub.refl _
   ·simp [-wD9,-gD,bH,hok,hl',hlen,←hf]<;>(first | rfl | exact ⟨rfl,rfl⟩ | exact ⟨rfl,rfl,rfl⟩ | skip)
end Go.Sep
