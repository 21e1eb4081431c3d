/- Contracts of functions. -/
import Derived.Test.YtebbppogicgpkaaGreatJxx8
import Derived.Test.YtebbppogicgpkaaGreatJxx9
open Bool renaming and_eq_true → qWu
open List renaming drop_one → qYj, getD_eq_getElem?_getD → qWw
namespace Go.Sep
set_option maxHeartbeats 16000000
open Go.Proofs
set_option linter.unusedSimpArgs false
set_option linter.unusedVariables false
set_option maxRecDepth 100000
open Nat renaming reduceAdd → qA, reduceMul → qB, reduceEqDiff → qC, reduceBEq → qD
open Int renaming reduceToNat → qE, reduceEq → qF, reduceLT → qG, reduceLE → qH
open List renaming getD_eq_getElem?_getD → gD
def mI {α:Type} (w:α→Nat):List α→Nat
 | []=>0
 | a::l=>w a+mI w l
theorem lQ {α:Type} {w:α→Nat} :∀{l:List α} {x:α},x∈l→w x≤mI w l
 | [],x,h=>by simp at h
 | a::l,x,h=>by
  simp only [mI]
  rcases List.mem_cons.1 h with rfl | h
  ·omega
  ·have:=lQ (w:=w) h
   omega
theorem qBd {α:Type} {w:α→Nat} {c:Nat} :∀{l:List α},(∀x∈l,w x≤c)→mI w l≤c*l.length
 | [],_=>by simp [mI]
 | a::l,h=>by
  have h1:=h a (by simp)
  have h2:=qBd (l:=l) (fun x hx=>h x (by simp [hx]))
  simp only [mI,List.length_cons]
  rw [Nat.mul_add,Nat.mul_one]
  omega
def mks {α:Type} (w:α→Nat) (f:Int→α→α):Int→List α→List α
 | _,[]=>[]
 | k,a::l=>f k a::mks w f (k+w a) l
theorem qKo (a b:Nat) (n:Int) (h:0≤n):(if szL a n<0 then -1 else szL b (szL a n))=szL (a+b) n:=by
 unfold szL
 by_cases h1:n-a<0
 ·rw [if_pos h1,if_pos (by decide),if_pos (by push_cast; omega)]
 ·rw [if_neg h1,if_neg h1]
  by_cases h2:n-a-b<0
  ·rw [if_pos h2,if_pos (by push_cast; omega)]
  ·rw [if_neg h2,if_neg (by push_cast; omega)]
   push_cast
   omega
theorem qUi {k:Nat} {n:Int} (h:szL k n<0):szL k n=-1:=by
 unfold szL at h⊢
 split
 ·rfl
 ·rename_i h4; rw [if_neg h4] at h; omega
theorem qSs {k:Nat} {n:Int} (h :¬szL k n<0) (h0:0≤n):(k:Int)≤n:=by
 have:=qO0 h
 omega
theorem qJ7 :∀(l:List (List Ins)) (n:Int),0≤n→pA l n=szL (tot l) n
 | [],n,h=>by
  simp only [pA,tot]
  unfold szL
  rw [if_neg (by push_cast; omega)]
  push_cast
  omega
 | a::l,n,h=>by
  simp only [pA,tot]
  rw [←qKo _ _ _ h]
  by_cases h2:szL a.length n<0
  ·rw [if_pos h2,if_pos h2]
  ·rw [if_neg h2,if_neg h2]
   exact qJ7 l _ (by omega)
def qJ2 (p:wU):Nat:=p.caps.length+(p.bods.length+tot p.bods)
theorem qQv (p:wU) (n:Int) (h:0≤n):qCt p n=szL (qJ2 p) n:=by
 unfold qCt qJ2 qAi
 rw [←qKo _ _ _ h]
 by_cases h1:szL p.caps.length n<0
 ·rw [if_pos h1,if_pos h1]
 ·have h1':0≤szL p.caps.length n:=by omega
  rw [if_neg h1,if_neg h1,←qKo _ _ _ h1']
  by_cases h2:szL p.bods.length (szL p.caps.length n)<0
  ·simp only [if_pos h2]
   rfl
  ·simp only [if_neg h2]
   rw [qJ7 _ _ (by omega)]
   by_cases h3:szL (tot p.bods) (szL p.bods.length (szL p.caps.length n))<0
   ·rw [if_pos h3,qUi h3]
   ·rw [if_neg h3]
def qVy (_x:aH):Nat:=2
def qRm (k:Int) (_x:aH):aH:=⟨k,k+1⟩
structure qW9 (p:wU) (n:Nat):Prop where
 caps:p.caps.length≤n
 bods:p.bods.length≤n
 body :∀b∈p.bods,b.length≤n
 tot:tot p.bods≤n
theorem qPt :∀{l:List (List Ins)} {b:List Ins},b∈l→b.length≤tot l
 | [],b,h=>by simp at h
 | a::l,b,h=>by
  simp only [tot]
  rcases List.mem_cons.1 h with rfl | h
  ·omega
  ·have:=qPt h
   omega
theorem qSz {p:wU} {n:Nat} (h:qJ2 p≤n):qW9 p n:=by
 unfold qJ2 at h
 exact ⟨by omega,by omega,fun b hb=>by have:=qPt hb; omega,by omega⟩
theorem dC (p:wU) (s:wI):wL p s=true↔jU p=true∧s.ths.length=p.bods.length∧s.chs.length=p.caps.length∧bG s.tr s.ths.length=true∧
  (∀i,i<s.ths.length→vR (p.bods.getD i []) (s.ths.getD i default)=true)∧(∀j,j<s.chs.length→vH (s.chs.getD j default)=true∧(s.chs.getD j default).cap=p.caps.getD j 0):=by
 simp only [wL,qWu,decide_eq_true_eq,List.all_eq_true,List.mem_range]
 constructor
 ·rintro ⟨⟨⟨⟨⟨a,b⟩,c⟩,d⟩,e⟩,f⟩
  exact ⟨a,b,c,d,e,f⟩
 ·rintro ⟨a,b,c,d,e,f⟩
  exact ⟨⟨⟨⟨⟨a,b⟩,c⟩,d⟩,e⟩,f⟩
theorem mW {α:Type} (l:List α) (i j:Nat) (x d:α) (h:i<l.length):(l.set i x).getD j d=if j=i then x else l.getD j d:=by
 simp only [qWw,List.getElem?_set]
 by_cases hij:i=j
 ·subst hij
  simp [h]
 ·simp [hij,Ne.symm hij]
theorem qDe {p:wU} {s:wI} {i:Nat} {t:jX} (h:wL p s=true) (hi:i<s.ths.length) (ht:vR (p.bods.getD i []) t=true):wL p ⟨s.ths.set i t,s.chs,s.tr⟩=true:=by
 rw [dC] at h⊢
 obtain ⟨a,b,c,d,e,f⟩:=h
 refine ⟨a,by simpa using b,c,by simpa using d,fun j hj=>?_,f⟩
 simp only at hj⊢
 rw [mW _ _ _ _ _ hi]
 split
 ·rename_i hji; rw [hji]; exact ht
 ·exact e j (by simpa using hj)
theorem qRd {p:wU} {s:wI} {j:Nat} {c':bR} (h:wL p s=true) (hj:j<s.chs.length) (hc:vH c'=true) (hcap:c'.cap=(s.chs.getD j default).cap):wL p ⟨s.ths,s.chs.set j c',s.tr⟩=true:=by
 rw [dC] at h⊢
 obtain ⟨a,b,c,d,e,f⟩:=h
 refine ⟨a,b,by simpa using c,d,e,fun k hk=>?_⟩
 simp only at hk⊢
 rw [mW _ _ _ _ _ hj]
 split
 ·rename_i hkj; rw [hkj]; exact ⟨hc,by rw [hcap]; exact (f j hj).2⟩
 ·exact f k (by simpa using hk)
theorem qVn {p:wU} {s:wI} {n:aH} (h:wL p s=true) (hn:0≤n.who∧n.who<s.ths.length) (hl:s.tr.length<4000):wL p ⟨s.ths,s.chs,s.tr++[n]⟩=true:=by
 rw [dC] at h⊢
 obtain ⟨a,b,c,d,e,f⟩:=h
 refine ⟨a,b,c,?_,e,f⟩
 simp only [bG,qWu,decide_eq_true_eq,List.all_append,List.all_cons,List.all_nil,Bool.and_true] at d⊢
 refine ⟨⟨d.1,by rw [qP]; omega⟩,by simp; omega⟩
theorem tE {p:wU} {s:wI} {i:Nat} {t:jX} {ok:Bool} {uZ:Int} (h:wL p s=true) (hi:i<s.ths.length) (hr:t.regs.length=4) (hst:0≤t.st∧t.st≤2) (hat:0≤t.at_∧t.at_<(p.bods.getD i []).length) (hn:0≤uZ):wL p (aV p s i t ok uZ)=true:=by
 unfold aV
 split
 ·exact qDe h hi (by simp only [vR,qWu,decide_eq_true_eq,qP]; omega)
 ·rename_i hh
  have:uZ<(p.bods.getD i []).length:=by
   rcases Int.lt_or_le uZ (p.bods.getD i []).length with h1 | h1
   ·exact h1
   ·exact absurd (.inr h1) hh
  exact qDe h hi (by simp only [vR,qWu,decide_eq_true_eq,qP]; omega)
theorem qLi {c:bR} {v:Int} (h:vH c=true):vH (yC c v).1=true∧(yC c v).1.cap=c.cap:=by
 have h2:=qB2 h
 rw [fB c v h]
 split
 ·exact ⟨h,rfl⟩
 ·split
  ·exact ⟨h,rfl⟩
  ·refine ⟨?_,rfl⟩
   simp only [vH,qWu,qP,decide_eq_true_eq] at h⊢
   refine ⟨h.1,?_⟩
   simp
   omega
theorem qLg {c:bR} (h:vH c=true):vH (wJ c).1=true∧(wJ c).1.cap=c.cap:=by
 unfold wJ
 rw [if_neg (by rw [h]; simp)]
 split
 ·refine ⟨?_,rfl⟩
  simp only [vH,qWu,qP,decide_eq_true_eq] at h⊢
  refine ⟨h.1,?_⟩
  simp only [List.length_drop]
  omega
 ·split<;>exact ⟨h,rfl⟩
theorem qJ0 {c:bR} (h:vH c=true):vH (vC c).1=true∧(vC c).1.cap=c.cap:=by
 unfold vC
 split
 ·exact ⟨h,rfl⟩
 ·exact ⟨h,rfl⟩
theorem qLh {t:jX} {c:bR} {x:Ins} (h:vH c=true):vH (wV t c x).2.1=true∧(wV t c x).2.1.cap=c.cap:=by
 unfold wV
 split
 ·exact qLi h
 ·split
  ·exact qLg h
  ·exact qJ0 h
theorem qEt (t:jX) (c:bR) (x:Ins):(wV t c x).1.regs.length=t.regs.length∧(wV t c x).1.st=t.st∧(wV t c x).1.at_=t.at_:=by
 unfold wV
 split
 ·simp only
  split<;>simp [wW]
 ·split
  ·simp only
   split<;>simp [wW]
  ·exact ⟨rfl,rfl,rfl⟩
theorem nM {p:wU} {s:wI} {i:Nat} (h:wL p s=true) (hi:i<s.ths.length) (ht:(ins p s i).op=10→s.tr.length<4000):wL p (yX p s i)=true:=by
 have ha:=qK9 h hi
 have e1:=ha.at0
 have e2:=ha.at1
 have e4:=ha.regs
 have hth:=((dC p s).1 h).2.2.2.2.1 i hi
 simp only [vR,qWu,decide_eq_true_eq,qP] at hth
 obtain ⟨⟨_,hst⟩,hat⟩:=hth
 have hat':0≤(s.ths.getD i default).at_∧(s.ths.getD i default).at_<(p.bods.getD i []).length:=by omega
 have hself :∀r v,(wW (s.ths.getD i default) r v).regs.length=4:=fun r v=>by simp only [wW,List.length_set]; exact e4
 unfold yX
 split
 ·exact tE h hi (hself _ _) hst hat' (by omega)
 split
 ·exact tE h hi (hself _ _) hst hat' (by omega)
 split
 ·rename_i h10
  exact tE (qVn h ⟨by simp,by simp; exact hi⟩ (ht h10)) hi e4 hst hat' (by omega)
 split
 ·rename_i h11
  exact tE h hi e4 hst hat' (ha.jm (.inl h11)).1
 split
 ·rename_i h12
  exact tE h hi e4 hst hat' (by have:=(ha.jm (.inr h12)).1; split<;>omega)
 split
 ·exact qDe h hi (by simp only [vR,qWu,decide_eq_true_eq,qP]; omega)
 ·rename_i h1 h2 h10 h11 h12 h13
  obtain ⟨n0,n1⟩:=ha.ch (by have:=ha.op; omega) (by have:=ha.op; omega)
  have hc:=qK4 h n1
  obtain ⟨q1,q2⟩:=qLh (t:=s.ths.getD i default) (x:=ins p s i) hc
  obtain ⟨r1,r2,r3⟩:=qEt (s.ths.getD i default) (s.chs.getD (ins p s i).n.toNat default) (ins p s i)
  exact tE (qRd h n1 q1 q2) hi (by rw [r1]; exact e4) (by rw [r2]; exact hst) (by rw [r3]; exact hat') (by omega)
theorem oB {p:wU} {s:wI} (h:wL p s=true):hZ s:=by
 have hn:=fI h
 rw [dC] at h
 obtain ⟨a,b,c,d,e,f⟩:=h
 simp only [jU,qWu,decide_eq_true_eq,qP] at a
 refine ⟨by omega,by omega,by omega,fun t ht=>?_,fun c' hc'=>?_⟩
 ·obtain ⟨i,hi,rfl⟩:=List.getElem_of_mem ht
  have:=e i hi
  simp only [vR,qWu,decide_eq_true_eq] at this
  have hg:s.ths.getD i default=s.ths[i]:=by simp [qWw,hi]
  rw [hg] at this
  omega
 ·obtain ⟨i,hi,rfl⟩:=List.getElem_of_mem hc'
  have:=qB2 (f i hi).1
  have h2:=(f i hi).1
  simp only [vH,qWu,qP] at h2
  have hg:s.chs.getD i default=s.chs[i]:=by simp [qWw,hi]
  rw [hg] at this h2
  omega
def m25:MFn:=⟨43,[.cell 6 3 true,.t 7],kr [xb 3 0,xb 4 1,xo 6 (.alloc [.nil,.nil,.nil]),xo 7 (.mv (.c (.nil)))] (kr [xm 13 3 4,xc1 14 49 (.t 13),xo 8 (.alloc [.nil,.nil,.nil]),xS 3 8 14] (kr [xo 15 (.mkSl [xz] 0 []),xv 9 15] (.seq (kr [xv 16 2,xe 17 16,bI 18 .gtr 17 4000,xv 19 18,xg 20 (.load 2 true (.t 3)) 19 false,xg 21 (.load 3 true (.t 4)) 19 false,xg 22 (.call 50 [false,false] [.t 20,.t 21]) 19 false,zN 23 22 19,xQ 24 19 23] (kF 24 [xm 25 3 8,xv 26 9,xS 3 6 25,xv 7 26])) (.seq (kr [xv 27 2,xe 28 27,xI 29 0] (.blk 0 (.loop (kr [bT 30 .lss 29 28] (.seq (kX 30 0) (.seq (.blk 1 (kr [xD 31 1 27 29,xl 32 31,xv 11 32] (kr [xm 33 2 3,xv 34 11,xo 35 (.call 43 [false,true,false] [.t 33,.t 8,.t 34]),xv 12 35] (xr [xv 36 9,xv 37 12,xo 38 (.mkSl [xz] 1 [(0,.t 37)]),xA 39 1 8 36 38,xv 9 39])))) (xr [bI 40 .add 29 1,xv 29 40]))))))) (kR [xm 41 3 8,xv 42 9,xS 3 6 41,xv 7 42])))))⟩
theorem oK (l:List Int) (n:Int):wQ l++[[.int .i64 n]]=wQ (l++[n]):=by simp [wQ]
def uQ (p:wU) (st:wI×List Int) (who:Int):wI×List Int:=((wN p st.1 who).1,st.2++[(wN p st.1 who).2])
def qVm (p:wU) (s:wI) (picks:List Int):wI×List Int:=picks.foldl (uQ p) (s,[])
def gV (p:wU) (s:wI) (picks:List Int):wI×List Int:=if wL p s&&decide ((picks.length:Int)≤4000) then qVm p s picks else (s,[])
theorem oA {p:wU} {s:wI} (who:Int) (h:wL p s=true):wL p (wN p s who).1=true:=by
 unfold wN
 split
 ·rename_i hc
  obtain ⟨w0,w1⟩:=qQj hc
  refine nM h w1 fun h10=>?_
  have hn:=fI h
  unfold jF at hc
  split at hc
  ·simp at hc
  ·split at hc
   ·simp at hc
   ·rename_i hx
    have :¬(s.tr.length:Int)=4000:=fun e=>hx (.inr ⟨h10,e⟩)
    omega
 ·exact h
theorem qAk {p:wU} {s:wI} (h:wL p s=true) (picks:List Int) :∀i,i≤picks.length→wL p ((picks.take i).foldl (uQ p) (s,[])).1=true∧((picks.take i).foldl (uQ p) (s,[])).2.length=i
 | 0,_=>⟨h,rfl⟩
 | i+1,hi=>by
  have ih:=qAk h picks i (by omega)
  rw [bL picks 0 i (by omega),List.foldl_append]
  exact ⟨oA _ ih.1,by simp only [List.foldl_cons,List.foldl_nil,uQ,List.length_append,ih.2]; rfl⟩
theorem qM6 (p:wU) (picks:List Int) (i:Nat) (h:i<picks.length) (st:wI×List Int):(picks.take (i+1)).foldl (uQ p) st=uQ p ((picks.take i).foldl (uQ p) st) (picks.getD i 0):=by
 rw [bL picks 0 i h,List.foldl_append]
 rfl
theorem qDq (p:wU) (s:wI) (picks:List Int) (hp:vY p) (hs:hZ s) (h4:picks.length<2^40) :
  qU Tryz.prog num 25 [.agg (yT .bw p),.agg (yL .bw s),.sl .bw 1 (wQ picks)] [] (.tup [.agg (yL .own (gV p s picks).1),.sl .own 1 (wQ (gV p s picks).2)]):=by
 refine EN m25 Tryz.func20 ?_
 unfold m25
 simp only [go_sem,seval]
 refine CA [] (qIx s hs) ?_
 try simp only [go_sem,seval]
 by_cases hl:(4000:Int)<picks.length
 ·have hl' :¬(picks.length:Int)≤4000:=by omega
  try simp only [go_sem,seval,hl]
  apply wG (by simp)
  ·exact Sub.refl _
  ·simp [-qYj,-gD,gV,hl',uD]<;>(first | rfl | exact ⟨rfl,rfl⟩ | exact ⟨rfl,rfl,rfl⟩ | skip)
 have hl':(picks.length:Int)≤4000:=by omega
 try simp only [go_sem,seval,hl]
 refine CA [] (rI p s hp hs) ?_
 try simp only [go_sem,seval]
 cases hok:wL p s
 ·try simp only [go_sem,seval,hok]
  apply wG (by simp)
  ·exact Sub.refl _
  ·simp [-qYj,-gD,gV,hok,uD]<;>(first | rfl | exact ⟨rfl,rfl⟩ | exact ⟨rfl,rfl,rfl⟩ | skip)
 try simp only [go_sem,seval,hok]
 refine wB (ι:=Nat) (fun i=>.mk [(3,.ptr 10 0 0),(6,.ptr 12 0 0),(8,.ptr 16 0 0),(9,.ns 17 0 i),(27,.sl .bw 1 (wQ picks)),(28,.int .i64 picks.length),(29,.int .i64 i)] [(10,2,[yT .bw p]),(12,3,[[.nil,.nil,.nil]]),(16,3,[yL .own ((picks.take i).foldl (uQ p) (s,[])).1]),(17,1,wQ ((picks.take i).foldl (uQ p) (s,[])).2)] 18) (fun i=>i≤picks.length) (fun i=>picks.length-i) 0 (by simp) ?_ ?_
 ·refine Sub.trans (Sub.fold1 16 0 13 rfl (by simp [-gD]<;>omega) rfl (by decide) (by decide) rfl) ?_
  simp only [fS,qA,qC]
  refine Sub.trans (Sub.fold1 16 1 14 rfl (by simp [-gD]<;>omega) rfl (by decide) (by decide) rfl) ?_
  simp only [fS,qA,qC]
  refine Sub.trans (Sub.fold1 16 2 15 rfl (by simp [-gD]<;>omega) rfl (by decide) (by decide) rfl) ?_
  simp only [fS,qA,qC]
  refine Sub.shape [] id (by omega) ?_ ?_ ?_ ?_<;>simp [qN]
  exact .inl rfl
 ·intro i hi
  have hr:=qAk hok picks i hi
  have hstep:=fun h=>qM6 p picks i h (s,[])
  have hfin :¬(i:Int)<picks.length→(picks.take i).foldl (uQ p) (s,[])=qVm p s picks:=fun h=>by rw [List.take_of_length_le (by omega)]; rfl
  generalize (picks.take i).foldl (uQ p) (s,[])=st at hr hstep hfin
  obtain ⟨hso,hlen⟩:=hr
  have hss:=oB hso
  have htr:=fI hso
  simp only [go_sem,seval]
  refine qM (fun hc=>?_) (fun hc=>?_)
  ·simp only [decide_eq_true_eq] at hc
   have hl2:i<picks.length:=by omega
   simp only [go_sem,seval,qI picks i hl2]
   repeat refine K ?_
   refine CA [(0,16)] (qIh p st.1 (picks.getD i 0) hp hss hso htr) ?_
   try simp only [go_sem,seval]
   repeat refine K ?_
   try simp only [go_sem,seval,qW (i:=i) (by omega),hlen]
   refine qV (i+1) ?_ hl2 (by omega)
   simp only [hstep hl2,uQ]
   refine Sub.shape [] (fun n=>if n=17 then 19 else n) (by omega) ?_ ?_ ?_ ?_<;>simp [qN]
   all_goals exact .inl (oK _ _)
  ·simp only [decide_eq_false_iff_not] at hc
   have hf:=hfin hc
   simp only [go_sem,seval]
   apply wG (by simp)
   ·exact Sub.refl _
   ·simp [-qYj,-gD,gV,hok,hl',hlen,←hf]<;>(first | rfl | exact ⟨rfl,rfl⟩ | exact ⟨rfl,rfl,rfl⟩ | skip)
end Go.Sep
