/- Contracts of functions. -/
import Derived.Test.YtfecojefbnnknaaLxx5
open Bool renaming and_eq_true → qZu
open List renaming drop_one → wBe, foldl_append → wBn, getD_eq_getElem?_getD → qZw, getElem_of_mem → wBm, take_of_length_le → wA3
namespace Go.Sep
set_option maxHeartbeats 16000000
open Go.Proofs
set_option linter.unusedSimpArgs false
set_option linter.unusedVariables false
set_option maxRecDepth 100000
open Nat renaming reduceAdd → qA, reduceMul → qB, reduceEqDiff → qC, reduceBEq → qD
open Int renaming reduceToNat → qE, reduceEq → qF, reduceLT → qG, reduceLE → qH
open List renaming getD_eq_getElem?_getD → gD
@[simp] def qZg (s:qS):AV:=.agg [.ns 0 0 s.ths.length,.ns 1 0 s.chs.length,.ns 2 0 s.tr.length]
@[simp] def qZh (s:qS):FP:=[(0,some (3,wW .own s.ths),none),(1,some (3,wF .own s.chs),none),(2,some (2,yT s.tr),none)]
theorem qOg (c:jS) (v:Int) (h:jM c=true):yB c v=if c.closed then (c,2) else if (c.list.length:Int)=c.cap then (c,1) else ({c with list:=c.list++[v]},0):=by
 unfold yB
 cases hc:c.closed<;>simp [-qZw,h]
theorem qSr {p:wU} {s:qS} (h:qY p s=true) {j:Nat} (hj:j<s.chs.length):jM (s.chs.getD j default)=true:=by
 simp only [qY,qZu] at h
 have:=List.all_eq_true.1 h.2 j (List.mem_range.2 hj)
 simp only [qZu] at this
 exact this.1
theorem qFb {c:jS} (h:jM c=true):1≤c.cap∧(c.list.length:Int)≤c.cap:=by
 simp only [jM,qZu,qK,decide_eq_true_eq] at h
 omega
theorem mU {p:wU} {s:qS} (h:qY p s=true):s.tr.length≤4000:=by
 simp only [qY,zO,qZu,decide_eq_true_eq] at h
 omega
theorem bD {α:Type} (l:List α) (d:α) (i:Nat) (h:i<l.length):l.take (i+1)=l.take i++[l.getD i d]:=by
 rw [List.take_succ_eq_append_getElem h]
 simp [qZw,h]
def pQ {α:Type} (w:α→Nat):List α→Nat
 | []=>0
 | a::l=>w a+pQ w l
def mks {α:Type} (w:α→Nat) (f:Int→α→α):Int→List α→List α
 | _,[]=>[]
 | k,a::l=>f k a::mks w f (k+w a) l
@[simp] theorem qNu {α:Type} (w:α→Nat) (f:Int→α→α) :∀(k:Int) (l:List α),(mks w f k l).length=l.length
 | _,[]=>rfl
 | k,b::l=>by simp [mks,qNu]
@[simp] theorem qYw {α:Type} (w:α→Nat) (f:Int→α→α) (k:Int) (l:List α):(mks w f k l).take l.length=mks w f k l:=wA3 (by simp)
def qYr (_x:bK):Nat:=2
def qRu (k:Int) (_x:bK):bK:=⟨k,k+1⟩
theorem yS (p:wU) (s:qS):qY p s=true↔vC p=true∧s.ths.length=p.bods.length∧s.chs.length=p.caps.length∧zO s.tr s.ths.length=true∧
  (∀i,i<s.ths.length→jZ (p.bods.getD i []) (s.ths.getD i default)=true)∧(∀j,j<s.chs.length→jM (s.chs.getD j default)=true∧(s.chs.getD j default).cap=p.caps.getD j 0):=by
 simp only [qY,qZu,decide_eq_true_eq,List.all_eq_true,List.mem_range]
 constructor
 ·rintro ⟨⟨⟨⟨⟨a,b⟩,c⟩,d⟩,e⟩,f⟩
  exact ⟨a,b,c,d,e,f⟩
 ·rintro ⟨a,b,c,d,e,f⟩
  exact ⟨⟨⟨⟨⟨a,b⟩,c⟩,d⟩,e⟩,f⟩
theorem fP {α:Type} (l:List α) (i j:Nat) (x d:α) (h:i<l.length):(l.set i x).getD j d=if j=i then x else l.getD j d:=by
 simp only [qZw,List.getElem?_set]
 by_cases hij:i=j
 ·subst hij
  simp [h]
 ·simp [hij,Ne.symm hij]
theorem qAn {p:wU} {s:qS} {i:Nat} {t:yJ} (h:qY p s=true) (hi:i<s.ths.length) (ht:jZ (p.bods.getD i []) t=true):qY p ⟨s.ths.set i t,s.chs,s.tr⟩=true:=by
 rw [yS] at h⊢
 obtain ⟨a,b,c,d,e,f⟩:=h
 refine ⟨a,by simpa using b,c,by simpa using d,fun j hj=>?_,f⟩
 simp only at hj⊢
 rw [fP _ _ _ _ _ hi]
 split
 ·rename_i hji; rw [hji]; exact ht
 ·exact e j (by simpa using hj)
theorem qRj {p:wU} {s:qS} {j:Nat} {c':jS} (h:qY p s=true) (hj:j<s.chs.length) (hc:jM c'=true) (hcap:c'.cap=(s.chs.getD j default).cap):qY p ⟨s.ths,s.chs.set j c',s.tr⟩=true:=by
 rw [yS] at h⊢
 obtain ⟨a,b,c,d,e,f⟩:=h
 refine ⟨a,b,by simpa using c,d,e,fun k hk=>?_⟩
 simp only at hk⊢
 rw [fP _ _ _ _ _ hj]
 split
 ·rename_i hkj; rw [hkj]; exact ⟨hc,by rw [hcap]; exact (f j hj).2⟩
 ·exact f k (by simpa using hk)
theorem qY8 {p:wU} {s:qS} {n:bK} (h:qY p s=true) (hn:0≤n.who∧n.who<s.ths.length) (hl:s.tr.length<4000):qY p ⟨s.ths,s.chs,s.tr++[n]⟩=true:=by
 rw [yS] at h⊢
 obtain ⟨a,b,c,d,e,f⟩:=h
 refine ⟨a,b,c,?_,e,f⟩
 simp only [zO,qZu,decide_eq_true_eq,List.all_append,List.all_cons,List.all_nil,Bool.and_true] at d⊢
 refine ⟨⟨d.1,by rw [qK]; omega⟩,by simp; omega⟩
theorem oF {p:wU} {s:qS} {i:Nat} {t:yJ} {ok:Bool} {next:Int} (h:qY p s=true) (hi:i<s.ths.length) (hr:t.regs.length=4) (hst:0≤t.st∧t.st≤2) (hat:0≤t.at_∧t.at_<(p.bods.getD i []).length) (hn:0≤next):qY p (vM p s i t ok next)=true:=by
 unfold vM
 split
 ·exact qAn h hi (by simp only [jZ,qZu,decide_eq_true_eq,qK]; omega)
 ·rename_i hh
  have:next<(p.bods.getD i []).length:=by
   rcases Int.lt_or_le next (p.bods.getD i []).length with h1 | h1
   ·exact h1
   ·exact absurd (.inr h1) hh
  exact qAn h hi (by simp only [jZ,qZu,decide_eq_true_eq,qK]; omega)
theorem qK3 {c:jS} {v:Int} (h:jM c=true):jM (yB c v).1=true∧(yB c v).1.cap=c.cap:=by
 have h2:=qFb h
 rw [qOg c v h]
 split
 ·exact ⟨h,rfl⟩
 ·split
  ·exact ⟨h,rfl⟩
  ·refine ⟨?_,rfl⟩
   simp only [jM,qZu,qK,decide_eq_true_eq] at h⊢
   refine ⟨h.1,?_⟩
   simp
   omega
theorem qK1 {c:jS} (h:jM c=true):jM (wP c).1=true∧(wP c).1.cap=c.cap:=by
 unfold wP
 rw [if_neg (by rw [h]; simp)]
 split
 ·refine ⟨?_,rfl⟩
  simp only [jM,qZu,qK,decide_eq_true_eq] at h⊢
  refine ⟨h.1,?_⟩
  simp only [List.length_drop]
  omega
 ·split<;>exact ⟨h,rfl⟩
theorem qGp {c:jS} (h:jM c=true):jM (vK c).1=true∧(vK c).1.cap=c.cap:=by
 unfold vK
 split
 ·exact ⟨h,rfl⟩
 ·exact ⟨h,rfl⟩
theorem qK2 {t:yJ} {c:jS} {x:Ins} (h:jM c=true):jM (qX t c x).2.1=true∧(qX t c x).2.1.cap=c.cap:=by
 unfold qX
 split
 ·exact qK3 h
 ·split
  ·exact qK1 h
  ·exact qGp h
theorem qCa (t:yJ) (c:jS) (x:Ins):(qX t c x).1.regs.length=t.regs.length∧(qX t c x).1.st=t.st∧(qX t c x).1.at_=t.at_:=by
 unfold qX
 split
 ·simp only
  split<;>simp [wV]
 ·split
  ·simp only
   split<;>simp [wV]
  ·exact ⟨rfl,rfl,rfl⟩
theorem hX {p:wU} {s:qS} {i:Nat} (h:qY p s=true) (hi:i<s.ths.length) (ht:(ins p s i).op=10→s.tr.length<4000):qY p (wN p s i)=true:=by
 have ha:=tW h hi
 have e1:=ha.at0
 have e2:=ha.at1
 have e4:=ha.regs
 have hth:=((yS p s).1 h).2.2.2.2.1 i hi
 simp only [jZ,qZu,decide_eq_true_eq,qK] at hth
 obtain ⟨⟨_,hst⟩,hat⟩:=hth
 have hat':0≤(s.ths.getD i default).at_∧(s.ths.getD i default).at_<(p.bods.getD i []).length:=by omega
 have hself :∀r v,(wV (s.ths.getD i default) r v).regs.length=4:=fun r v=>by simp only [wV,List.length_set]; exact e4
 unfold wN
 split
 ·exact oF h hi (hself _ _) hst hat' (by omega)
 split
 ·exact oF h hi (hself _ _) hst hat' (by omega)
 split
 ·rename_i h10
  exact oF (qY8 h ⟨by simp,by simp; exact hi⟩ (ht h10)) hi e4 hst hat' (by omega)
 split
 ·rename_i h11
  exact oF h hi e4 hst hat' (ha.jm (.inl h11)).1
 split
 ·rename_i h12
  exact oF h hi e4 hst hat' (by have:=(ha.jm (.inr h12)).1; split<;>omega)
 split
 ·exact qAn h hi (by simp only [jZ,qZu,decide_eq_true_eq,qK]; omega)
 ·rename_i h1 h2 h10 h11 h12 h13
  obtain ⟨n0,n1⟩:=ha.ch (by have:=ha.op; omega) (by have:=ha.op; omega)
  have hc:=qSr h n1
  obtain ⟨q1,q2⟩:=qK2 (t:=s.ths.getD i default) (x:=ins p s i) hc
  obtain ⟨r1,r2,r3⟩:=qCa (s.ths.getD i default) (s.chs.getD (ins p s i).n.toNat default) (ins p s i)
  exact oF (qRj h n1 q1 q2) hi (by rw [r1]; exact e4) (by rw [r2]; exact hst) (by rw [r3]; exact hat') (by omega)
theorem iO {p:wU} {s:qS} (h:qY p s=true):qIe s:=by
 have hn:=mU h
 rw [yS] at h
 obtain ⟨a,b,c,d,e,f⟩:=h
 simp only [vC,qZu,decide_eq_true_eq,qK] at a
 refine ⟨by omega,by omega,by omega,fun t ht=>?_,fun c' hc'=>?_⟩
 ·obtain ⟨i,hi,rfl⟩:=wBm ht
  have:=e i hi
  simp only [jZ,qZu,decide_eq_true_eq] at this
  have hg:s.ths.getD i default=s.ths[i]:=by simp [qZw,hi]
  rw [hg] at this
  omega
 ·obtain ⟨i,hi,rfl⟩:=wBm hc'
  have:=qFb (f i hi).1
  have h2:=(f i hi).1
  simp only [jM,qZu,qK] at h2
  have hg:s.chs.getD i default=s.chs[i]:=by simp [qZw,hi]
  rw [hg] at this h2
  omega
def m25:MFn:=⟨43,[.cell 6 3 true,.t 7],kr [xb 3 0,xb 4 1,xo 6 (.alloc [.nil,.nil,.nil]),xo 7 (.mv (.c (.nil)))] (kr [xm 13 3 4,xc1 14 49 (.t 13),xo 8 (.alloc [.nil,.nil,.nil]),xS 3 8 14] (kr [xo 15 (.mkSl [xz] 0 []),xv 9 15] (.seq (kr [xv 16 2,xe 17 16,bI 18 .gtr 17 4000,xv 19 18,xg 20 (.load 2 true (.t 3)) 19 false,xg 21 (.load 3 true (.t 4)) 19 false,xg 22 (.call 50 [false,false] [.t 20,.t 21]) 19 false,zN 23 22 19,xQ 24 19 23] (kF 24 [xm 25 3 8,xv 26 9,xS 3 6 25,xv 7 26])) (.seq (kr [xv 27 2,xe 28 27,xI 29 0] (.blk 0 (.loop (kr [bT 30 .lss 29 28] (.seq (kX 30 0) (.seq (.blk 1 (kr [xD 31 1 27 29,xl 32 31,xv 11 32] (kr [xm 33 2 3,xv 34 11,xo 35 (.call 43 [false,true,false] [.t 33,.t 8,.t 34]),xv 12 35] (xr [xv 36 9,xv 37 12,xo 38 (.mkSl [xz] 1 [(0,.t 37)]),xA 39 1 8 36 38,xv 9 39])))) (xr [bI 40 .add 29 1,xv 29 40]))))))) (kR [xm 41 3 8,xv 42 9,xS 3 6 41,xv 7 42])))))⟩
theorem oM (l:List Int) (n:Int):wC l++[[.int .i64 n]]=wC (l++[n]):=by simp [wC]
def zE (p:wU) (st:qS×List Int) (who:Int):qS×List Int:=((qT p st.1 who).1,st.2++[(qT p st.1 who).2])
def qWf (p:wU) (s:qS) (picks:List Int):qS×List Int:=picks.foldl (zE p) (s,[])
def vH (p:wU) (s:qS) (picks:List Int):qS×List Int:=if qY p s&&decide ((picks.length:Int)≤4000) then qWf p s picks else (s,[])
theorem dM {p:wU} {s:qS} (who:Int) (h:qY p s=true):qY p (qT p s who).1=true:=by
 unfold qT
 split
 ·rename_i hc
  obtain ⟨w0,w1⟩:=qDa hc
  refine hX h w1 fun h10=>?_
  have hn:=mU h
  unfold wQ at hc
  split at hc
  ·simp at hc
  ·split at hc
   ·simp at hc
   ·rename_i hx
    have :¬(s.tr.length:Int)=4000:=fun e=>hx (.inr ⟨h10,e⟩)
    omega
 ·exact h
theorem kM {p:wU} {s:qS} (h:qY p s=true) (picks:List Int) :∀i,i≤picks.length→qY p ((picks.take i).foldl (zE p) (s,[])).1=true∧((picks.take i).foldl (zE p) (s,[])).2.length=i
 | 0,_=>⟨h,rfl⟩
 | i+1,hi=>by
  have ih:=kM h picks i (by omega)
  rw [bD picks 0 i (by omega),wBn]
  exact ⟨dM _ ih.1,by simp only [List.foldl_cons,List.foldl_nil,zE,List.length_append,ih.2]; rfl⟩
theorem qTp (p:wU) (picks:List Int) (i:Nat) (h:i<picks.length) (st:qS×List Int):(picks.take (i+1)).foldl (zE p) st=zE p ((picks.take i).foldl (zE p) st) (picks.getD i 0):=by
 rw [bD picks 0 i h,wBn]
 rfl
theorem aU (p:wU) (s:qS) (picks:List Int) (hp:rJ p) (hs:qIe s) (h4:picks.length<2^40) :
  wD Try.prog num 25 [.agg (dU .bw p),.agg (jJ .bw s),.sl .bw 1 (wC picks)] [] (.tup [.agg (jJ .own (vH p s picks).1),.sl .own 1 (wC (vH p s picks).2)]):=by
 refine EN m25 Try.func10 ?_
 unfold m25
 simp only [go_sem,seval]
 refine CA [] (qGm s hs) ?_
 try simp only [go_sem,seval]
 by_cases hl:(4000:Int)<picks.length
 ·have hl' :¬(picks.length:Int)≤4000:=by omega
  try simp only [go_sem,seval,hl]
  apply qD8 (by simp)
  ·exact Sub.refl _
  ·simp [-wBe,-gD,vH,hl',tC]<;>(first | rfl | exact ⟨rfl,rfl⟩ | exact ⟨rfl,rfl,rfl⟩ | skip)
 have hl':(picks.length:Int)≤4000:=by omega
 try simp only [go_sem,seval,hl]
 refine CA [] (qCp p s hp hs) ?_
 try simp only [go_sem,seval]
 cases hok:qY p s
 ·try simp only [go_sem,seval,hok]
  apply qD8 (by simp)
  ·exact Sub.refl _
  ·simp [-wBe,-gD,vH,hok,tC]<;>(first | rfl | exact ⟨rfl,rfl⟩ | exact ⟨rfl,rfl,rfl⟩ | skip)
 try simp only [go_sem,seval,hok]
 refine wE (ι:=Nat) (fun i=>.mk [(3,.ptr 10 0 0),(6,.ptr 12 0 0),(8,.ptr 16 0 0),(9,.ns 17 0 i),(27,.sl .bw 1 (wC picks)),(28,.int .i64 picks.length),(29,.int .i64 i)] [(10,2,[dU .bw p]),(12,3,[[.nil,.nil,.nil]]),(16,3,[jJ .own ((picks.take i).foldl (zE p) (s,[])).1]),(17,1,wC ((picks.take i).foldl (zE p) (s,[])).2)] 18) (fun i=>i≤picks.length) (fun i=>picks.length-i) 0 (by simp) ?_ ?_
 ·refine Sub.trans (Sub.fold1 16 0 13 rfl (by simp [-gD]<;>omega) rfl (by decide) (by decide) rfl) ?_
  simp only [fS,qA,qC]
  refine Sub.trans (Sub.fold1 16 1 14 rfl (by simp [-gD]<;>omega) rfl (by decide) (by decide) rfl) ?_
  simp only [fS,qA,qC]
  refine Sub.trans (Sub.fold1 16 2 15 rfl (by simp [-gD]<;>omega) rfl (by decide) (by decide) rfl) ?_
  simp only [fS,qA,qC]
  refine Sub.shape [] id (by omega) ?_ ?_ ?_ ?_<;>simp [qM]
  exact .inl rfl
 ·intro i hi
  have hr:=kM hok picks i hi
  have hstep:=fun h=>qTp p picks i h (s,[])
  have hfin :¬(i:Int)<picks.length→(picks.take i).foldl (zE p) (s,[])=qWf p s picks:=fun h=>by rw [wA3 (by omega)]; rfl
  generalize (picks.take i).foldl (zE p) (s,[])=st at hr hstep hfin
  obtain ⟨hso,hlen⟩:=hr
  have hss:=iO hso
  have htr:=mU hso
  simp only [go_sem,seval]
  refine qU (fun hc=>?_) (fun hc=>?_)
  ·simp only [decide_eq_true_eq] at hc
   have hl2:i<picks.length:=by omega
   simp only [go_sem,seval,qJ picks i hl2]
   repeat refine K ?_
   refine CA [(0,16)] (qG8 p st.1 (picks.getD i 0) hp hss hso htr) ?_
   try simp only [go_sem,seval]
   repeat refine K ?_
   try simp only [go_sem,seval,wA (i:=i) (by omega),hlen]
   refine qW (i+1) ?_ hl2 (by omega)
   simp only [hstep hl2,zE]
   refine Sub.shape [] (fun n=>if n=17 then 19 else n) (by omega) ?_ ?_ ?_ ?_<;>simp [qM]
   all_goals exact .inl (oM _ _)
  ·simp only [decide_eq_false_iff_not] at hc
   have hf:=hfin hc
   simp only [go_sem,seval]
   apply qD8 (by simp)
   ·exact Sub.refl _
   ·simp [-wBe,-gD,vH,hok,hl',hlen,←hf]<;>(first | rfl | exact ⟨rfl,rfl⟩ | exact ⟨rfl,rfl,rfl⟩ | skip)
end Go.Sep
