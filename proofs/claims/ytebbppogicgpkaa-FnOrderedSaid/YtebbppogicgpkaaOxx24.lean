/- Contracts of functions. -/
import Derived.Test.YtebbppogicgpkaaOxx23
namespace Go.Sep
set_option maxHeartbeats 16000000
open Go.Proofs
set_option linter.unusedSimpArgs false
set_option linter.unusedVariables false
set_option maxRecDepth 100000
open Nat renaming reduceAdd → qA, reduceMul → qB, reduceEqDiff → qC, reduceBEq → qD
open Int renaming reduceToNat → qE, reduceEq → qF, reduceLT → qG, reduceLE → qH
open List renaming getD_eq_getElem?_getD → gD
def m419:MFn:=⟨26,[.t 4],kr [xF 4] (.seq (kr [xv 6 0,xe 7 6,xv 8 1,xe 9 8,bT 10 .neq 7 9] (kF 10 [xF 4])) (.seq (kr [xv 11 0,xe 12 11,xI 13 0] (.blk 0 (.loop (kr [bT 14 .lss 13 12] (.seq (kX 14 0) (.seq (.blk 1 (kr [xv 15 13,xv 5 15] (.seq (.dreg (.take 0 (xv 16 0) (.take 1 (xv 17 5) (.take 2 (xD 18 2 16 17) (.take 3 (xm 19 2 18) (.take 4 (xv 20 1) (.only 5 [] (xv 21 5) (.only 6 [4] (xD 22 2 20 21) (.only 7 [6,4] (xm 23 2 22) (.only 8 [3,7,2,6,0,1,4] (xo 24 (.eqS true [true,true] (.t 19) (.t 23))) (.done))))))))))) (kF 24 [xF 4])))) (xr [bI 25 .add 13 1,xv 13 25]))))))) (kR [xT 4])))⟩
theorem qMo {a b:List dW} (i:Nat) (h1:i<a.length) (h2:i<b.length) (hp:a.take i=b.take i) (he:a.getD i default=b.getD i default):a.take (i+1)=b.take (i+1):=by
 rw [zC a default i h1,zC b default i h2,hp,he]
theorem qRr (x y:dW):(decide (x.who=y.who)&&decide (x.v=y.v))=decide (x=y):=by
 obtain ⟨x1,x2⟩:=x
 obtain ⟨y1,y2⟩:=y
 by_cases h1:x1=y1<;>by_cases h2:x2=y2<;>simp [h1,h2]
theorem qRd {α:Type} {a b:List α} {i:Nat} (hp:a.take i=b.take i) (h1:a.length≤i∨b.length≤i) (hl:a.length=b.length):a=b:=by
 rw [←List.take_of_length_le (show a.length≤i by omega),hp,List.take_of_length_le (by omega)]
theorem qG9 (a b:List dW) (h1:a.length<2^40):wD Try.prog num 419 [.sl .bw 2 (yW a),.sl .bw 2 (yW b)] [] (.bool (decide (a=b))):=by
 refine EN m419 Try.func12 ?_
 unfold m419
 by_cases hl:a.length=b.length
 ·have d0:decide ((a.length:Int)=(b.length:Int))=true:=by simp [hl]
  simp only [go_sem,seval,d0]
  refine wL (ι:=Nat) (fun i=>.mk [(0,.sl .bw 2 (yW a)),(1,.sl .bw 2 (yW b)),(12,.int .i64 a.length),(13,.int .i64 i)] [] 10) (fun i=>i≤a.length∧a.take i=b.take i) (fun i=>a.length-i) 0 (by simp) ?_ ?_
  ·refine Sub.shape [] id (by omega) ?_ ?_ ?_ ?_<;>simp [qP]
  ·rintro i ⟨hi,hp⟩
   simp only [go_sem,seval]
   refine qT (fun hc=>?_) (fun hc=>?_)
   ·simp only [decide_eq_true_eq] at hc
    have g1:i<a.length:=by omega
    have g2:i<b.length:=by omega
    simp only [go_sem,seval,mL a i g1,mL b i g2,qRr]
    repeat refine K ?_
    by_cases he:a.getD i default=b.getD i default
    ·have d3:(!decide (a.getD i default=b.getD i default))=false:=by rw [decide_eq_true he]; rfl
     try simp only [go_sem,seval,d3,wB (i:=i) (by omega)]
     refine wC (i+1) (Sub.shape [] id (by omega) ?_ ?_ ?_ ?_) ⟨g1,qMo i g1 g2 hp he⟩ (by omega)<;>simp [qP]
    ·have hne :¬a=b:=fun e=>he (by rw [e])
     have d3:(!decide (a.getD i default=b.getD i default))=true:=by rw [decide_eq_false he]; rfl
     try simp only [go_sem,seval,d3]
     refine fz ?_; simp [yB,qW,qZ,wG,-List.drop_one]
     all_goals simp [hne]
   ·simp only [decide_eq_false_iff_not] at hc
    have hab:a=b:=qRd hp (.inl (by omega)) hl
    simp only [go_sem,seval]
    refine fz ?_; simp [yB,qW,qZ,wG,-List.drop_one]
    all_goals simp [hab]
 ·have d0:decide ((a.length:Int)=(b.length:Int))=false:=by simp; omega
  have hne :¬a=b:=fun e=>hl (by rw [e])
  simp only [go_sem,seval,d0]
  refine fz ?_; simp [yB,qW,qZ,wG,-List.drop_one]
  all_goals simp [hne]
def qFd (p:wN) (m:qK) (s:qV) (n:Int):Bool :=
 qL n 0 (p.caps.length-1)&&decide (n<s.chs.length) &&
  (qD0 m.mem.cells p.caps n||((qBf m.mem.cells p.caps n).2&&decide ((qBf m.mem.cells p.caps n).1.cap=(s.chs.getD n.toNat default).cap)&&decide ((qBf m.mem.cells p.caps n).1.list=(s.chs.getD n.toNat default).list)&&decide ((qBf m.mem.cells p.caps n).1.closed=(s.chs.getD n.toNat default).closed)))
def same (p:wN) (m:qK) (s:qV):Bool :=
 vD p&&wJ m&&wF p s&&decide (m.cores.length=s.ths.length)&&decide (m.tr=s.tr) &&
  (List.range m.cores.length).all (fun i=>oP p m s i)&&(List.range p.caps.length).all (fun n=>qFd p m s n)
def m410:MFn:=⟨45,[.t 4],kr [xb 2 0,xF 4] (kr [xm 13 2 2,xv 14 1,xc2 15 407 (.t 13) (.t 14),xv 12 15,xX 16 12 0,xX 17 12 1,xX 18 12 2,xo 6 (.alloc [.nil,.nil,.nil,.nil]),xv 5 16,xS 4 6 17,xv 7 18] (.seq (kr [xv 19 7,xN 20 19] (kF 20 [xF 4])) (kr [xm 22 2 2,xv 23 5,xc2 24 430 (.t 22) (.t 23),xv 21 24,xX 25 21 0,xX 26 21 1,xo 8 (.alloc [.nil,.nil,.nil]),xS 3 8 25,xv 9 26] (.seq (kr [xv 27 9,xe 28 27,xI 29 0] (.blk 0 (.loop (kr [bT 30 .lss 29 28] (.seq (kX 30 0) (.seq (.blk 1 (kr [xD 31 1 27 29,xl 32 31,xv 11 32] (kr [xv 33 11,bI 34 .neq 33 0,xv 35 34,yv 36 11 35,yI 37 .neq 36 4 35,xP 38 35 37] (kF 38 [xF 4])))) (xr [bI 39 .add 29 1,xv 29 39]))))))) (kR [xa 40 2 8,xl 41 40,xa 42 3 6,xl 43 42,xc2 44 419 (.t 41) (.t 43),xv 4 44])))))⟩
def m430:MFn:=⟨19,[.cell 4 3 true,.t 5],kr [xb 2 0,xo 4 (.alloc [.nil,.nil,.nil]),xo 5 (.mv (.c (.nil)))] (kr [xm 9 2 2,xc1 10 24 (.t 9),xv 8 10,xX 11 8 0,xX 12 8 1,xo 6 (.alloc [.nil,.nil,.nil]),xS 3 6 11,xv 7 12] (kR [xm 13 2 2,xm 14 3 6,xv 15 1,xc3 16 25 (.t 13) (.t 14) (.t 15),xX 17 16 0,xX 18 16 1,xS 3 4 17,xv 5 18]))⟩
def rT (p:wN) (o:List Int):qV×List Int:=aG p (jP p).1 o
def rF (c:List Int):Bool:=c.all fun x=>decide (x=0)||decide (x=4)
theorem qMx (p:wN) (o:List Int) (h:vD p=true):qFr (jP p).1:=qDm (zK h)
theorem qKb (p:wN) :∀(l:List Int) (s:qV) (c:List Int),(l.foldl (bL p) (s,c)).2.length=c.length+l.length
 | [],s,c=>by simp
 | x::l,s,c=>by
  simp only [List.foldl_cons,bL]
  rw [qKb p l]
  simp
  omega
theorem qDs (p:wN) :∀(l:List Int) (s:qV) (c:List Int),wF p s=true→wF p (l.foldl (bL p) (s,c)).1=true
 | [],s,c,h=>h
 | x::l,s,c,h=>by
  simp only [List.foldl_cons,bL]
  exact qDs p l _ _ (cD x h)
theorem qMy {p:wN} {o:List Int} (h:vD p=true):wF p (rT p o).1=true:=by
 unfold rT aG
 split
 ·exact qDs p o _ _ (zK h)
 ·exact zK h
theorem qS8 {p:wN} {o:List Int} (h:vD p=true) (hl:o.length≤4000):(rT p o).2.length=o.length:=by
 unfold rT aG
 rw [zK h,decide_eq_true (show (o.length:Int)≤4000 by omega)]
 show (o.foldl (bL p) ((jP p).1,[])).2.length=_
 rw [qKb]
 simp
theorem qEp {c:List Int} {i:Nat} (h:rF (c.take i)=true) (hi:i<c.length) (hp:c.getD i 0=0∨c.getD i 0=4):rF (c.take (i+1))=true:=by
 unfold rF at *
 exact eX (d:=0) h hi (by rcases hp with h | h<;>rw [h]<;>rfl)
theorem qMz {c:List Int} {i:Nat} (hi:i<c.length) (h0 :¬c.getD i 0=0) (h4 :¬c.getD i 0=4):rF c=false:=by
 unfold rF
 exact aZ (d:=0) hi (by rw [decide_eq_false h0,decide_eq_false h4]; rfl)
theorem qEw (p:wN) (o:List Int) (h:vD p=true) (hl:o.length<2^40):wD Try.prog num 430 [.agg (vP .bw p),.sl .bw 1 (wT o)] [] (.tup [.agg (uD .own (rT p o).1),.sl .own 1 (wT (rT p o).2)]):=by
 have hpp:=qH2 h
 refine EN m430 Try.func11 ?_
 unfold m430
 simp only [go_sem,seval]
 refine CA [] (qB7 p hpp.caps hpp.bods hpp.body') ?_
 try simp only [go_sem,seval]
 refine CA [] (qB6 p (jP p).1 o hpp (qMx p o h) hl) ?_
 try simp only [go_sem,seval]
 apply jV (by simp)
 ·exact Sub.refl _
 ·simp [-List.drop_one,-gD,rT,uD]<;>(first | rfl | exact ⟨rfl,rfl⟩ | exact ⟨rfl,rfl,rfl⟩ | skip)
def mP (p:wN) (l:List gI):Bool:=(yG p l).2.2&&rF (rT p (yG p l).1).2&&decide ((yG p l).2.1.tr=(rT p (yG p l).1).1.tr)
theorem kN {p:wN} {l:List gI} (h:(yG p l).2.2=true):vD p=true∧bR p.caps=true∧wJ (yG p l).2.1=true∧(launch p).2=true∧yG p l=(bU p (launch p).1 l,iK (launch p).1 l,true)∧(yG p l).1.length≤l.length:=by
 unfold yG at h⊢
 split at h
 ·rename_i hc
  rw [if_pos hc]
  simp only [Bool.and_eq_true,decide_eq_true_eq] at hc
  obtain ⟨h1,h2,h3,h4⟩:=fU hc.1
  exact ⟨h1,h2,qCz l h4,hc.1,rfl,lX p _ l⟩
 ·exact absurd h (by simp)
theorem qDa (p:wN) (l:List gI):sG (yG p l).2.1:=qPi (n:=4000000) (qAj p l).2 (by omega)
theorem tS (p:wN) (l:List gI) (hp:xE p) (hl:l.length<2^40) (hx :∀x∈l,qPq x):wD Try.prog num 410 [.agg (vP .bw p),.sl .bw 2 (aN l)] [] (.bool (mP p l)):=by
 refine EN m410 Try.func7 ?_
 unfold m410
 have hw:=oJ p l hp hl hx
 have hz:=(qAj p l).1
 have hr:=@kN p l
 have hm:=qDa p l
 unfold mP
 generalize yG p l=w at *
 obtain ⟨o,m,b⟩:=w
 simp only at hz hr hm⊢
 simp only [go_sem,seval]
 refine CA [] (hw) ?_
 try simp only [go_sem,seval]
 cases b
 ·try simp only [go_sem,seval]
  refine fz ?_; simp [yB,qW,qZ,wG,-List.drop_one]
 obtain ⟨h1,_⟩:=hr rfl
 have hj:=qEw p o h1 (by omega)
 have htr:=hm.tr
 have hsr:=(qDm (qMy (o:=o) h1)).tr
 have hln:=qS8 (o:=o) h1 hz
 generalize rT p o=q at *
 obtain ⟨s,c⟩:=q
 simp only at hj hsr hln⊢
 try simp only [go_sem,seval]
 refine CA [] (hj) ?_
 try simp only [go_sem,seval]
 refine wL (ι:=Nat) (fun i=>.mk [(6,.ptr 16 0 0),(8,.ptr 21 0 0),(27,.ns 20 0 c.length),(28,.int .i64 c.length),(29,.int .i64 i)] [(16,4,[qS .own m]),(21,3,[uD .own s]),(20,1,wT c)] 22) (fun i=>i≤c.length∧rF (c.take i)=true) (fun i=>c.length-i) 0 (by simp [rF]) ?_ ?_
 ·refine Sub.trans (Sub.fold1 21 0 17 rfl (by simp [-gD]<;>omega) rfl (by decide) (by decide) rfl) ?_
  simp only [fS,fS2,qA,qC]
  refine Sub.trans (Sub.fold1 21 1 18 rfl (by simp [-gD]<;>omega) rfl (by decide) (by decide) rfl) ?_
  simp only [fS,fS2,qA,qC]
  refine Sub.trans (Sub.fold1 21 2 19 rfl (by simp [-gD]<;>omega) rfl (by decide) (by decide) rfl) ?_
  simp only [fS,fS2,qA,qC]
  refine Sub.trans (Sub.fold1 16 0 12 rfl (by simp [-gD]<;>omega) rfl (by decide) (by decide) rfl) ?_
  simp only [fS,fS2,qA,qC]
  refine Sub.trans (Sub.fold1 16 1 13 rfl (by simp [-gD]<;>omega) rfl (by decide) (by decide) rfl) ?_
  simp only [fS,fS2,qA,qC]
  refine Sub.trans (Sub.fold1 16 2 14 rfl (by simp [-gD]<;>omega) rfl (by decide) (by decide) rfl) ?_
  simp only [fS,fS2,qA,qC]
  refine Sub.trans (Sub.fold1 16 3 15 rfl (by simp [-gD]<;>omega) rfl (by decide) (by decide) rfl) ?_
  simp only [fS,fS2,qA,qC]
  refine Sub.shape [] id (by omega) ?_ ?_ ?_ ?_<;>simp [qP]
 ·rintro i ⟨hi,hq⟩
  simp only [go_sem,seval]
  refine qT (fun hc=>?_) (fun hc=>?_)
  ·simp only [decide_eq_true_eq] at hc
   have hil:i<c.length:=by omega
   simp only [go_sem,seval,qI c i hil]
   repeat refine K ?_
   by_cases h0:c.getD i 0=0
   ·try simp only [go_sem,seval,h0,wB (i:=i) (by omega)]
    refine wC (i+1) (Sub.shape [] id (by omega) ?_ ?_ ?_ ?_) ?_ ?_
    any_goals (first | omega | (simp [qP]; done))
    exact ⟨hil,qEp hq hil (.inl h0)⟩
   by_cases h4:c.getD i 0=4
   ·try simp only [go_sem,seval,h0,h4,qI c i hil,wB (i:=i) (by omega)]
    refine wC (i+1) (Sub.shape [] id (by omega) ?_ ?_ ?_ ?_) ?_ ?_
    any_goals (first | omega | (simp [qP]; done))
    exact ⟨hil,qEp hq hil (.inr h4)⟩
   have hjf:=qMz hil h0 h4
   try simp only [go_sem,seval,h0,h4,qI c i hil]
   refine fz ?_; simp [yB,qW,qZ,wG,-List.drop_one]
   all_goals simp [hjf]
  ·simp only [decide_eq_false_iff_not] at hc
   have he:i=c.length:=by omega
   subst he
   rw [List.take_length] at hq
   simp only [go_sem,seval]
   refine CA [] (qG9 s.tr m.tr (by omega)) ?_
   try simp only [go_sem,seval]
   refine fz ?_; simp [yB,qW,qZ,wG,-List.drop_one]
   rw [hq]
   simp [eq_comm]
end Go.Sep
