/- Contracts of functions. -/
import Derived.Test.YtebbppogicgpkaaGreatJxx31
import Derived.Test.YtebbppogicgpkaaGreatJxx33
import Derived.Test.YtebbppogicgpkaaGreatJxx34
open List renaming drop_one → qYj, range → qYr
namespace Go.Sep
set_option maxHeartbeats 16000000
open Go.Proofs
set_option linter.unusedSimpArgs false
set_option linter.unusedVariables false
set_option maxRecDepth 100000
open Nat renaming reduceAdd → qA, reduceMul → qB, reduceEqDiff → qC, reduceBEq → qD
open Int renaming reduceToNat → qE, reduceEq → qF, reduceLT → qG, reduceLE → qH
open List renaming getD_eq_getElem?_getD → gD
def m397:MFn:=⟨47,[.t 4],kr [xb 2 0,xF 4] (kr [xm 12 2 2,xv 13 1,xc2 14 406 (.t 12) (.t 13),xv 11 14,xX 15 11 0,xX 16 11 1,xX 17 11 2,xo 6 (.alloc [.nil,.nil,.nil,.nil]),xv 5 15,xS 4 6 16,xv 7 17] (.seq (kr [xI 8 0] (.blk 0 (.loop (.seq (kr [xv 18 8,xa 19 0 2,xl 20 19,xe 21 20,bT 22 .lss 18 21,xv 23 22,yv 24 7 23,xP 25 23 24] (kX 25 0)) (.seq (.blk 1 (kr [xa 29 2 6,xm 30 1 29,xa 31 0 2,xl 32 31,xv 33 8,xc3 34 421 (.t 30) (.t 32) (.t 33),xv 28 34,xX 35 28 0,xX 36 28 1,xo 9 (.alloc [.int .i64 0,.nil,.bool false]),xS 3 9 35,xv 10 36] (xr [xv 37 10,xv 38 37,za 39 2 6 38,xg 40 (.load 1 true (.t 39)) 38 false,za 41 0 2 38,zl 42 1 41 38,zv 43 8 38,xg 44 (.call 422 [false,false,false] [.t 40,.t 42,.t 43]) 38 false,xQ 45 38 44,xv 7 45]))) (xr [xv 26 8,bI 27 .add 26 1,xv 8 27])))))) (kR [xv 46 7,xv 4 46])))⟩
def m398:MFn:=⟨47,[.t 4],kr [xb 2 0,xF 4] (kr [xm 12 2 2,xv 13 1,xc2 14 407 (.t 12) (.t 13),xv 11 14,xX 15 11 0,xX 16 11 1,xX 17 11 2,xo 6 (.alloc [.nil,.nil,.nil,.nil]),xv 5 15,xS 4 6 16,xv 7 17] (.seq (kr [xv 18 7,xN 19 18] (kF 19 [xF 4])) (.seq (kr [xa 20 0 2,xl 21 20,xe 22 21,xI 23 0] (.blk 0 (.loop (kr [bT 24 .lss 23 22] (.seq (kX 24 0) (.seq (.blk 1 (kr [xv 25 23,xv 8 25] (kr [xa 27 2 6,xm 28 1 27,xa 29 0 2,xl 30 29,xv 31 8,xc3 32 423 (.t 28) (.t 30) (.t 31),xv 26 32,xX 33 26 0,xX 34 26 1,xo 9 (.alloc [.int .i64 0,.nil,.bool false]),xS 3 9 33,xv 10 34] (kr [xv 35 10,xN 36 35,xv 37 36,ya 38 2 6 37,xg 39 (.load 1 true (.t 38)) 37 true,ya 40 0 2 37,yl 41 1 40 37,yv 42 8 37,xg 43 (.call 424 [false,false,false] [.t 39,.t 41,.t 42]) 37 true,yN 44 43 37,xP 45 37 44] (kF 45 [xF 4]))))) (xr [bI 46 .add 23 1,xv 23 46]))))))) (kR [xT 4]))))⟩
def m409:MFn:=⟨33,[.t 4],kr [xb 2 0,xF 4] (kr [xm 11 2 2,xv 12 1,xc2 13 406 (.t 11) (.t 12),xv 10 13,xX 14 10 0,xX 15 10 1,xX 16 10 2,xo 6 (.alloc [.nil,.nil,.nil,.nil]),xv 5 14,xS 4 6 15,xv 7 16] (.seq (kr [xv 17 7,xN 18 17] (kF 18 [xF 4])) (kr [xm 20 2 2,xv 21 5,xc2 22 429 (.t 20) (.t 21),xv 19 22,xX 23 19 0,xX 24 19 1,xo 8 (.alloc [.nil,.nil,.nil]),xS 3 8 23,xv 9 24] (kR [xv 25 9,xv 26 25,ya 27 3 6 26,yl 28 1 27 26,ya 29 2 8 26,yl 30 1 29 26,xg 31 (.call 417 [false,false] [.t 28,.t 30]) 26 true,xP 32 26 31,xv 4 32]))))⟩
def m410:MFn:=⟨45,[.t 4],kr [xb 2 0,xF 4] (kr [xm 13 2 2,xv 14 1,xc2 15 407 (.t 13) (.t 14),xv 12 15,xX 16 12 0,xX 17 12 1,xX 18 12 2,xo 6 (.alloc [.nil,.nil,.nil,.nil]),xv 5 16,xS 4 6 17,xv 7 18] (.seq (kr [xv 19 7,xN 20 19] (kF 20 [xF 4])) (kr [xm 22 2 2,xv 23 5,xc2 24 430 (.t 22) (.t 23),xv 21 24,xX 25 21 0,xX 26 21 1,xo 8 (.alloc [.nil,.nil,.nil]),xS 3 8 25,xv 9 26] (.seq (kr [xv 27 9,xe 28 27,xI 29 0] (.blk 0 (.loop (kr [bT 30 .lss 29 28] (.seq (kX 30 0) (.seq (.blk 1 (kr [xD 31 1 27 29,xl 32 31,xv 11 32] (kr [xv 33 11,bI 34 .neq 33 0,xv 35 34,yv 36 11 35,yI 37 .neq 36 4 35,xP 38 35 37] (kF 38 [xF 4])))) (xr [bI 39 .add 29 1,xv 29 39]))))))) (kR [xa 40 2 8,xl 41 40,xa 42 3 6,xl 43 42,xc2 44 419 (.t 41) (.t 43),xv 4 44])))))⟩
def m412:MFn:=⟨29,[.t 4],kr [xb 2 0,xF 4] (kr [xm 11 2 2,xv 12 1,xc2 13 406 (.t 11) (.t 12),xv 10 13,xX 14 10 0,xX 15 10 1,xX 16 10 2,xo 6 (.alloc [.nil,.nil,.nil,.nil]),xv 5 14,xS 4 6 15,xv 7 16] (.seq (kr [xv 17 7,xN 18 17] (kF 18 [xF 4])) (kr [xm 20 2 2,xv 21 5,xc2 22 429 (.t 20) (.t 21),xv 19 22,xX 23 19 0,xX 24 19 1,xo 8 (.alloc [.nil,.nil,.nil]),xS 3 8 23,xv 9 24] (kR [xm 25 2 2,xm 26 4 6,xm 27 3 8,xc3 28 394 (.t 25) (.t 26) (.t 27),xv 4 28]))))⟩
def m413:MFn:=⟨29,[.t 4],kr [xb 2 0,xF 4] (kr [xm 11 2 2,xv 12 1,xc2 13 407 (.t 11) (.t 12),xv 10 13,xX 14 10 0,xX 15 10 1,xX 16 10 2,xo 6 (.alloc [.nil,.nil,.nil,.nil]),xv 5 14,xS 4 6 15,xv 7 16] (.seq (kr [xv 17 7,xN 18 17] (kF 18 [xF 4])) (kr [xm 20 2 2,xv 21 5,xc2 22 430 (.t 20) (.t 21),xv 19 22,xX 23 19 0,xX 24 19 1,xo 8 (.alloc [.nil,.nil,.nil]),xS 3 8 23,xv 9 24] (kR [xm 25 2 2,xm 26 4 6,xm 27 3 8,xc3 28 395 (.t 25) (.t 26) (.t 27),xv 4 28]))))⟩
def m429:MFn:=⟨48,[.cell 4 3 true,.t 5],kr [xb 2 0,xo 4 (.alloc [.nil,.nil,.nil]),xF 5] (kr [xm 12 2 2,xc1 13 45 (.t 12),xv 11 13,xX 14 11 0,xX 15 11 1,xo 6 (.alloc [.nil,.nil,.nil]),xS 3 6 14,xv 7 15] (kr [xm 17 2 2,xm 18 3 6,xv 19 1,xc3 20 145 (.t 17) (.t 18) (.t 19),xv 16 20,xX 21 16 0,xX 22 16 1,xo 8 (.alloc [.nil,.nil,.nil]),xS 3 8 21,xv 9 22] (.seq (kr [xI 10 0] (.blk 0 (.loop (.seq (kr [xv 23 10,xv 24 9,xe 25 24,bT 26 .lss 23 25] (kX 26 0)) (.seq (.blk 1 (kr [xv 29 9,xv 30 10,xD 31 1 29 30,xl 32 31,bI 33 .neq 32 0,xv 34 33,yv 35 9 34,yv 36 10 34,xg 37 (.iad 1 (.t 35) (.t 36)) 34 true,yl 38 1 37 34,yI 39 .neq 38 4 34,xP 40 34 39] (kF 40 [xm 41 3 8,xS 3 4 41,xF 5]))) (xr [xv 27 10,bI 28 .add 27 1,xv 10 28])))))) (kR [xm 42 3 8,xv 43 9,xe 44 43,xv 45 1,xe 46 45,bT 47 .eql 44 46,xS 3 4 42,xv 5 47]))))⟩
def m430:MFn:=⟨19,[.cell 4 3 true,.t 5],kr [xb 2 0,xo 4 (.alloc [.nil,.nil,.nil]),xo 5 (.mv (.c (.nil)))] (kr [xm 9 2 2,xc1 10 24 (.t 9),xv 8 10,xX 11 8 0,xX 12 8 1,xo 6 (.alloc [.nil,.nil,.nil]),xS 3 6 11,xv 7 12] (kR [xm 13 2 2,xm 14 3 6,xv 15 1,xc3 16 25 (.t 13) (.t 14) (.t 15),xX 17 16 0,xX 18 16 1,xS 3 4 17,xv 5 18]))⟩
def kP (p:wU) (o:List Int):wI×List Int:=gV p (vA p).1 o
def mV (c:List Int):Bool:=c.all fun x=>decide (x=0)||decide (x=4)
theorem qGz (p:wU) (o:List Int) (h:jU p=true):hZ (vA p).1:=oB (eW h)
theorem qM7 (p:wU) :∀(l:List Int) (s:wI) (c:List Int),(l.foldl (uQ p) (s,c)).2.length=c.length+l.length
 | [],s,c=>by simp
 | x::l,s,c=>by
  simp only [List.foldl_cons,uQ]
  rw [qM7 p l]
  simp
  omega
theorem qG5 (p:wU) :∀(l:List Int) (s:wI) (c:List Int),wL p s=true→wL p (l.foldl (uQ p) (s,c)).1=true
 | [],s,c,h=>h
 | x::l,s,c,h=>by
  simp only [List.foldl_cons,uQ]
  exact qG5 p l _ _ (oA x h)
theorem qAv {p:wU} {o:List Int} (h:jU p=true):wL p (kP p o).1=true:=by
 unfold kP gV
 split
 ·exact qG5 p o _ _ (eW h)
 ·exact eW h
theorem qN3 {p:wU} {o:List Int} (h:jU p=true) (hl:o.length≤4000):(kP p o).2.length=o.length:=by
 unfold kP gV
 rw [eW h,decide_eq_true (show (o.length:Int)≤4000 by omega)]
 show (o.foldl (uQ p) ((vA p).1,[])).2.length=_
 rw [qM7]
 simp
theorem pQ {c:List Int} {i:Nat} (h:mV (c.take i)=true) (hi:i<c.length) (hp:c.getD i 0=0∨c.getD i 0=4):mV (c.take (i+1))=true:=by
 unfold mV at *
 exact gI (d:=0) h hi (by rcases hp with h | h<;>rw [h]<;>rfl)
theorem qH1 {c:List Int} {i:Nat} (hi:i<c.length) (h0 :¬c.getD i 0=0) (h4 :¬c.getD i 0=4):mV c=false:=by
 unfold mV
 exact bQ (d:=0) hi (by rw [decide_eq_false h0,decide_eq_false h4]; rfl)
theorem sM (p:wU) (o:List Int) (h:jU p=true) (hl:o.length<2^40):qU Tryz.prog num 430 [.agg (yT .bw p),.sl .bw 1 (wQ o)] [] (.tup [.agg (yL .own (kP p o).1),.sl .own 1 (wQ (kP p o).2)]):=by
 have hpp:=qJd h
 refine EN m430 Tryz.func81 ?_
 unfold m430
 simp only [go_sem,seval]
 refine CA [] (qDr p hpp.caps hpp.bods hpp.body') ?_
 try simp only [go_sem,seval]
 refine CA [] (qDq p (vA p).1 o hpp (qGz p o h) hl) ?_
 try simp only [go_sem,seval]
 apply wG (by simp)
 ·exact Sub.refl _
 ·simp [-qYj,-gD,kP,yL]<;>(first | rfl | exact ⟨rfl,rfl⟩ | exact ⟨rfl,rfl,rfl⟩ | skip)
theorem nZ (p:wU) (o:List Int) (h:jU p=true) (hl:o.length≤4000):qU Tryz.prog num 429 [.agg (yT .bw p),.sl .bw 1 (wQ o)] [] (.tup [.agg (yL .own (kP p o).1),.bool (mV (kP p o).2)]):=by
 have hpp:=qJd h
 have hlen:=qN3 h hl
 have hj:gV p (vA p).1 o=kP p o:=rfl
 refine EN m429 Tryz.func131 ?_
 unfold m429
 simp only [go_sem,seval]
 refine CA [] (qCw p hpp.caps hpp.bods hpp.body') ?_
 try simp only [go_sem,seval]
 refine CA [] (qCv p (vA p).1 o hpp (qGz p o h) (by omega)) ?_
 try simp only [go_sem,seval]
 rw [hj]
 generalize kP p o=q at *
 obtain ⟨s,c⟩:=q
 simp only at hlen⊢
 refine wB (ι:=Nat) (fun i=>.mk [(1,.sl .bw 1 (wQ o)),(4,.ptr 11 0 0),(8,.ptr 20 0 0),(9,.ns 19 0 c.length),(10,.int .i64 i)] [(11,3,[[.nil,.nil,.nil]]),(20,3,[yL .own s]),(19,1,wQ c)] 21) (fun i=>i≤c.length∧mV (c.take i)=true) (fun i=>c.length-i) 0 (by simp [mV]) ?_ ?_
 ·refine Sub.trans (Sub.fold1 20 0 16 rfl (by simp [-gD]<;>omega) rfl (by decide) (by decide) rfl) ?_
  simp only [fS,fS2,qA,qC]
  refine Sub.trans (Sub.fold1 20 1 17 rfl (by simp [-gD]<;>omega) rfl (by decide) (by decide) rfl) ?_
  simp only [fS,fS2,qA,qC]
  refine Sub.trans (Sub.fold1 20 2 18 rfl (by simp [-gD]<;>omega) rfl (by decide) (by decide) rfl) ?_
  simp only [fS,fS2,qA,qC]
  refine Sub.shape [] id (by omega) ?_ ?_ ?_ ?_<;>simp [qN]
 ·rintro i ⟨hi,hq⟩
  simp only [go_sem,seval]
  refine qM (fun hc=>?_) (fun hc=>?_)
  ·simp only [decide_eq_true_eq] at hc
   have hil:i<c.length:=by omega
   simp only [go_sem,seval,qI c i hil]
   repeat refine K ?_
   by_cases h0:c.getD i 0=0
   ·try simp only [go_sem,seval,h0,qW (i:=i) (by omega)]
    refine qV (i+1) (Sub.shape [] id (by omega) ?_ ?_ ?_ ?_) ?_ ?_
    any_goals (first | omega | (simp [qN]; done))
    exact ⟨hil,pQ hq hil (.inl h0)⟩
   by_cases h4:c.getD i 0=4
   ·try simp only [go_sem,seval,h0,h4,qI c i hil,qW (i:=i) (by omega)]
    repeat refine K ?_
    refine qV (i+1) (Sub.shape [] id (by omega) ?_ ?_ ?_ ?_) ?_ ?_
    any_goals (first | omega | (simp [qN]; done))
    exact ⟨hil,pQ hq hil (.inr h4)⟩
   have hjf:=qH1 hil h0 h4
   try simp only [go_sem,seval,h0,h4,qI c i hil]
   repeat refine K ?_
   rw [hjf]
   apply wG (by simp)
   ·exact Sub.refl _
   ·simp [-qYj,-gD,yL]<;>(first | rfl | exact ⟨rfl,rfl⟩ | exact ⟨rfl,rfl,rfl⟩ | skip)
  ·simp only [decide_eq_false_iff_not] at hc
   have he:i=c.length:=by omega
   subst he
   rw [List.take_length] at hq
   have e1:decide ((c.length:Int)=o.length)=true:=by simp; omega
   simp only [go_sem,seval,e1]
   rw [hq]
   apply wG (by simp)
   ·exact Sub.refl _
   ·simp [-qYj,-gD,yL]<;>(first | rfl | exact ⟨rfl,rfl⟩ | exact ⟨rfl,rfl,rfl⟩ | skip)
def iH (p:wU) (l:List uF):Bool:=(wT p l).2.2&&mV (kP p (wT p l).1).2&&decide ((wT p l).2.1.tr=(kP p (wT p l).1).1.tr)
def lJ (p:wU) (l:List uF):Bool:=(wT p l).2.2&&same p (wT p l).2.1 (kP p (wT p l).1).1
def iI (p:wU) (l:List uF):Bool:=(wT p l).2.2&&(qYr p.caps.length).all (fun n=>(uA (wT p l).2.1.mem.cells p.caps (n:Int)).2||vZ (wT p l).2.1.mem.cells p.caps (n:Int))
theorem cN {p:wU} {l:List uF} (h:(wT p l).2.2=true):jU p=true∧bV p.caps=true∧jG (wT p l).2.1=true∧(launch p).2=true∧wT p l=(bO p (launch p).1 l,cG (launch p).1 l,true)∧(wT p l).1.length≤l.length:=by
 unfold wT at h⊢
 split at h
 ·rename_i hc
  rw [if_pos hc]
  simp only [Bool.and_eq_true,decide_eq_true_eq] at hc
  obtain ⟨h1,h2,h3,h4⟩:=fZ hc.1
  exact ⟨h1,h2,qBy l h4,hc.1,rfl,lP p _ l⟩
 ·exact absurd h (by simp)
theorem eH (p:wU) (l:List uF):kT (wT p l).2.1:=qR6 (n:=4000000) (fE p l).2 (by omega)
theorem qBj (p:wU) (l:List uF) (hp:vY p) (hl:l.length<2^40) (hx :∀x∈l,tW x):qU Tryz.prog num 409 [.agg (yT .bw p),.sl .bw 2 (dR l)] [] (.bool (iH p l)):=by
 refine EN m409 Tryz.func58 ?_
 unfold m409
 have hw:=eK p l hp hl hx
 have hz:=(fE p l).1
 have hr:=@cN p l
 have hm:=eH p l
 unfold iH
 generalize wT p l=w at *
 obtain ⟨o,m,b⟩:=w
 simp only at hz hr hm⊢
 simp only [go_sem,seval]
 refine CA [] (hw) ?_
 try simp only [go_sem,seval]
 cases b
 ·try simp only [go_sem,seval]
  refine fz ?_; simp [qX,qQ,qR,qL,-qYj]
 obtain ⟨h1,_⟩:=hr rfl
 have hj:=nZ p o h1 (by omega)
 have htr:=hm.tr
 generalize kP p o=q at *
 obtain ⟨s,c⟩:=q
 simp only at hj⊢
 try simp only [go_sem,seval]
 refine CA [] (hj) ?_
 try simp only [go_sem,seval]
 cases hd:mV c
 ·try simp only [go_sem,seval,hd]
  refine fz ?_; simp [qX,qQ,qR,qL,-qYj]
 try simp only [go_sem,seval,hd]
 refine CA [] (sD m.tr s.tr (by omega)) ?_
 try simp only [go_sem,seval]
 refine fz ?_; simp [qX,qQ,qR,qL,-qYj]
theorem qC8 (p:wU) (l:List uF) (hp:vY p) (hl:l.length<2^40) (hx :∀x∈l,tW x):qU Tryz.prog num 410 [.agg (yT .bw p),.sl .bw 2 (dR l)] [] (.bool (iH p l)):=by
 refine EN m410 Tryz.func48 ?_
 unfold m410
 have hw:=eQ p l hp hl hx
 have hz:=(fE p l).1
 have hr:=@cN p l
 have hm:=eH p l
 unfold iH
 generalize wT p l=w at *
 obtain ⟨o,m,b⟩:=w
 simp only at hz hr hm⊢
 simp only [go_sem,seval]
 refine CA [] (hw) ?_
 try simp only [go_sem,seval]
 cases b
 ·try simp only [go_sem,seval]
  refine fz ?_; simp [qX,qQ,qR,qL,-qYj]
 obtain ⟨h1,_⟩:=hr rfl
 have hj:=sM p o h1 (by omega)
 have htr:=hm.tr
 have hsr:=(oB (qAv (o:=o) h1)).tr
 have hln:=qN3 (o:=o) h1 hz
 generalize kP p o=q at *
 obtain ⟨s,c⟩:=q
 simp only at hj hsr hln⊢
 try simp only [go_sem,seval]
 refine CA [] (hj) ?_
 try simp only [go_sem,seval]
 refine wB (ι:=Nat) (fun i=>.mk [(6,.ptr 16 0 0),(8,.ptr 21 0 0),(27,.ns 20 0 c.length),(28,.int .i64 c.length),(29,.int .i64 i)] [(16,4,[qY .own m]),(21,3,[yL .own s]),(20,1,wQ c)] 22) (fun i=>i≤c.length∧mV (c.take i)=true) (fun i=>c.length-i) 0 (by simp [mV]) ?_ ?_
 ·refine Sub.trans (Sub.fold1 21 0 17 rfl (by simp [-gD]<;>omega) rfl (by decide) (by decide) rfl) ?_
  simp only [fS,fS2,qA,qC]
  refine Sub.trans (Sub.fold1 21 1 18 rfl (by simp [-gD]<;>omega) rfl (by decide) (by decide) rfl) ?_
  simp only [fS,fS2,qA,qC]
  refine Sub.trans (Sub.fold1 21 2 19 rfl (by simp [-gD]<;>omega) rfl (by decide) (by decide) rfl) ?_
  simp only [fS,fS2,qA,qC]
  refine Sub.trans (Sub.fold1 16 0 12 rfl (by simp [-gD]<;>omega) rfl (by decide) (by decide) rfl) ?_
  simp only [fS,fS2,qA,qC]
  refine Sub.trans (Sub.fold1 16 1 13 rfl (by simp [-gD]<;>omega) rfl (by decide) (by decide) rfl) ?_
  simp only [fS,fS2,qA,qC]
  refine Sub.trans (Sub.fold1 16 2 14 rfl (by simp [-gD]<;>omega) rfl (by decide) (by decide) rfl) ?_
  simp only [fS,fS2,qA,qC]
  refine Sub.trans (Sub.fold1 16 3 15 rfl (by simp [-gD]<;>omega) rfl (by decide) (by decide) rfl) ?_
  simp only [fS,fS2,qA,qC]
  refine Sub.shape [] id (by omega) ?_ ?_ ?_ ?_<;>simp [qN]
 ·rintro i ⟨hi,hq⟩
  simp only [go_sem,seval]
  refine qM (fun hc=>?_) (fun hc=>?_)
  ·simp only [decide_eq_true_eq] at hc
   have hil:i<c.length:=by omega
   simp only [go_sem,seval,qI c i hil]
   repeat refine K ?_
   by_cases h0:c.getD i 0=0
   ·try simp only [go_sem,seval,h0,qW (i:=i) (by omega)]
    refine qV (i+1) (Sub.shape [] id (by omega) ?_ ?_ ?_ ?_) ?_ ?_
    any_goals (first | omega | (simp [qN]; done))
    exact ⟨hil,pQ hq hil (.inl h0)⟩
   by_cases h4:c.getD i 0=4
   ·try simp only [go_sem,seval,h0,h4,qI c i hil,qW (i:=i) (by omega)]
    refine qV (i+1) (Sub.shape [] id (by omega) ?_ ?_ ?_ ?_) ?_ ?_
    any_goals (first | omega | (simp [qN]; done))
    exact ⟨hil,pQ hq hil (.inr h4)⟩
   have hjf:=qH1 hil h0 h4
   try simp only [go_sem,seval,h0,h4,qI c i hil]
   refine fz ?_; simp [qX,qQ,qR,qL,-qYj]
   all_goals simp [hjf]
  ·simp only [decide_eq_false_iff_not] at hc
   have he:i=c.length:=by omega
   subst he
   rw [List.take_length] at hq
   simp only [go_sem,seval]
   refine CA [] (nP s.tr m.tr (by omega)) ?_
   try simp only [go_sem,seval]
   refine fz ?_; simp [qX,qQ,qR,qL,-qYj]
   rw [hq]
   simp [eq_comm]
theorem qCy (p:wU) (l:List uF) (hp:vY p) (hl:l.length<2^40) (hx :∀x∈l,tW x):qU Tryz.prog num 412 [.agg (yT .bw p),.sl .bw 2 (dR l)] [] (.bool (lJ p l)):=by
 refine EN m412 Tryz.func59 ?_
 unfold m412
 have hw:=eK p l hp hl hx
 have hz:=(fE p l).1
 have hr:=@cN p l
 have hm:=eH p l
 unfold lJ
 generalize wT p l=w at *
 obtain ⟨o,m,b⟩:=w
 simp only at hz hr hm⊢
 simp only [go_sem,seval]
 refine CA [] (hw) ?_
 try simp only [go_sem,seval]
 cases b
 ·try simp only [go_sem,seval]
  refine fz ?_; simp [qX,qQ,qR,qL,-qYj]
 obtain ⟨h1,_⟩:=hr rfl
 have hj:=nZ p o h1 (by omega)
 have hsr:=oB (qAv (o:=o) h1)
 have hss:=qLz p m (kP p o).1 hp hm hsr
 generalize kP p o=q at *
 obtain ⟨s,c⟩:=q
 simp only at hj hss⊢
 try simp only [go_sem,seval]
 refine CA [] (hj) ?_
 try simp only [go_sem,seval]
 refine CA [] (hss) ?_
 try simp only [go_sem,seval]
 refine fz ?_; simp [qX,qQ,qR,qL,-qYj]
theorem qDt (p:wU) (l:List uF) (hp:vY p) (hl:l.length<2^40) (hx :∀x∈l,tW x):qU Tryz.prog num 413 [.agg (yT .bw p),.sl .bw 2 (dR l)] [] (.bool (lJ p l)):=by
 refine EN m413 Tryz.func24 ?_
 unfold m413
 have hw:=eQ p l hp hl hx
 have hz:=(fE p l).1
 have hr:=@cN p l
 have hm:=eH p l
 unfold lJ
 generalize wT p l=w at *
 obtain ⟨o,m,b⟩:=w
 simp only at hz hr hm⊢
 simp only [go_sem,seval]
 refine CA [] (hw) ?_
 try simp only [go_sem,seval]
 cases b
 ·try simp only [go_sem,seval]
  refine fz ?_; simp [qX,qQ,qR,qL,-qYj]
 obtain ⟨h1,_⟩:=hr rfl
 have hj:=sM p o h1 (by omega)
 have hsr:=oB (qAv (o:=o) h1)
 have hss:=qN9 p m (kP p o).1 hp hm hsr
 generalize kP p o=q at *
 obtain ⟨s,c⟩:=q
 simp only at hj hss⊢
 try simp only [go_sem,seval]
 refine CA [] (hj) ?_
 try simp only [go_sem,seval]
 refine CA [] (hss) ?_
 try simp only [go_sem,seval]
 refine fz ?_; simp [qX,qQ,qR,qL,-qYj]
theorem qC9 (p:wU) (l:List uF) (hp:vY p) (hl:l.length<2^40) (hx :∀x∈l,tW x):qU Tryz.prog num 398 [.agg (yT .bw p),.sl .bw 2 (dR l)] [] (.bool (iI p l)):=by
 refine EN m398 Tryz.func25 ?_
 unfold m398
 have hw:=eQ p l hp hl hx
 have hm:=eH p l
 have h1:=hp.caps
 unfold iI
 generalize wT p l=w at *
 obtain ⟨o,m,b⟩:=w
 simp only at hm⊢
 simp only [go_sem,seval]
 refine CA [] (hw) ?_
 try simp only [go_sem,seval]
 cases b
 ·try simp only [go_sem,seval]
  refine fz ?_; simp [qX,qQ,qR,qL,-qYj]
 try simp only [go_sem,seval]
 refine wB (ι:=Nat) (fun i=>.mk [(2,.ptr 10 0 0),(6,.ptr 16 0 0),(22,.int .i64 p.caps.length),(23,.int .i64 i)] [(10,2,[yT .bw p]),(16,4,[qY .own m])] 17) (fun i=>i≤p.caps.length∧(qYr i).all (fun n=>(uA m.mem.cells p.caps (n:Int)).2||vZ m.mem.cells p.caps (n:Int))=true) (fun i=>p.caps.length-i) 0 (by simp) ?_ ?_
 ·refine Sub.trans (Sub.fold1 16 0 12 rfl (by simp [-gD]<;>omega) rfl (by decide) (by decide) rfl) ?_
  simp only [fS,fS2,qA,qC]
  refine Sub.trans (Sub.fold1 16 1 13 rfl (by simp [-gD]<;>omega) rfl (by decide) (by decide) rfl) ?_
  simp only [fS,fS2,qA,qC]
  refine Sub.trans (Sub.fold1 16 2 14 rfl (by simp [-gD]<;>omega) rfl (by decide) (by decide) rfl) ?_
  simp only [fS,fS2,qA,qC]
  refine Sub.trans (Sub.fold1 16 3 15 rfl (by simp [-gD]<;>omega) rfl (by decide) (by decide) rfl) ?_
  simp only [fS,fS2,qA,qC]
  refine Sub.shape [] id (by omega) ?_ ?_ ?_ ?_<;>simp [qN]
 ·rintro i ⟨hi,hq⟩
  simp only [go_sem,seval]
  refine qM (fun hc=>?_) (fun hc=>?_)
  ·simp only [decide_eq_true_eq] at hc
   have hil:i<p.caps.length:=by omega
   simp only [go_sem,seval]
   refine CA [] (qAb m.mem.cells p.caps i hm.mem h1) ?_
   try simp only [go_sem,seval]
   have hlk:=qA9 m.mem.cells p.caps i hm.mem h1
   have hst:=fun h=>vJ (P:=fun (n:Nat)=>(uA m.mem.cells p.caps (n:Int)).2||vZ m.mem.cells p.caps (n:Int)) hil h
   have hsp:=fun h=>gB (P:=fun (n:Nat)=>(uA m.mem.cells p.caps (n:Int)).2||vZ m.mem.cells p.caps (n:Int)) hq h
   generalize uA m.mem.cells p.caps i=q at *
   obtain ⟨c,b⟩:=q
   cases b
   ·try simp only [go_sem,seval]
    refine CA [] (hlk) ?_
    try simp only [go_sem,seval]
    cases hL:vZ m.mem.cells p.caps i
    ·try simp only [go_sem,seval,hL]
     refine fz ?_; simp [qX,qQ,qR,qL,-qYj]
     have:=hst (by rw [hL]; rfl)
     simpa using this
    ·try simp only [go_sem,seval,hL,qW (i:=i) (by omega)]
     refine qV (i+1) ?_ ⟨hil,hsp (by rw [hL]; rfl)⟩ (by omega)
     refine Sub.trans (Sub.fold1 16 2 17 rfl (by simp [-gD]<;>omega) rfl (by decide) (by decide) rfl) ?_
     simp only [fS,fS2,qA,qC]
     refine Sub.shape [] id (by omega) ?_ ?_ ?_ ?_<;>simp [qN]
   ·try simp only [go_sem,seval,qW (i:=i) (by omega)]
    refine qV (i+1) ?_ ⟨hil,hsp rfl⟩ (by omega)
    refine Sub.trans (Sub.fold1 16 2 17 rfl (by simp [-gD]<;>omega) rfl (by decide) (by decide) rfl) ?_
    simp only [fS,fS2,qA,qC]
    refine Sub.shape [] id (by omega) ?_ ?_ ?_ ?_<;>simp [qN]
  ·simp only [decide_eq_false_iff_not] at hc
   have he:=eY (P:=fun (n:Nat)=>(uA m.mem.cells p.caps (n:Int)).2||vZ m.mem.cells p.caps (n:Int)) hq hc hi
   simp only [go_sem,seval]
   refine fz ?_; simp [qX,qQ,qR,qL,-qYj]
   simpa using he
theorem qBk (p:wU) (l:List uF) (hp:vY p) (hl:l.length<2^40) (hx :∀x∈l,tW x):qU Tryz.prog num 397 [.agg (yT .bw p),.sl .bw 2 (dR l)] [] (.bool (iI p l)):=by
 refine EN m397 Tryz.func60 ?_
 unfold m397
 have hw:=eK p l hp hl hx
 have hm:=eH p l
 have h1:=hp.caps
 unfold iI
 generalize wT p l=w at *
 obtain ⟨o,m,b⟩:=w
 simp only at hm⊢
 simp only [go_sem,seval]
 refine CA [] (hw) ?_
 try simp only [go_sem,seval]
 cases b
 ·try simp only [go_sem,seval]
  refine wB (ι:=Nat) (fun _=>.mk [(2,.ptr 10 0 0),(6,.ptr 16 0 0),(7,.bool false),(8,.int .i64 0)] [(10,2,[yT .bw p]),(16,4,[qY .own m])] 17) (fun i=>i=0) (fun i=>i) 0 rfl ?_ ?_
  ·refine Sub.trans (Sub.fold1 16 0 12 rfl (by simp [-gD]<;>omega) rfl (by decide) (by decide) rfl) ?_
   simp only [fS,fS2,qA,qC]
   refine Sub.trans (Sub.fold1 16 1 13 rfl (by simp [-gD]<;>omega) rfl (by decide) (by decide) rfl) ?_
   simp only [fS,fS2,qA,qC]
   refine Sub.trans (Sub.fold1 16 2 14 rfl (by simp [-gD]<;>omega) rfl (by decide) (by decide) rfl) ?_
   simp only [fS,fS2,qA,qC]
   refine Sub.trans (Sub.fold1 16 3 15 rfl (by simp [-gD]<;>omega) rfl (by decide) (by decide) rfl) ?_
   simp only [fS,fS2,qA,qC]
   refine Sub.shape [] id (by omega) ?_ ?_ ?_ ?_<;>simp [qN]
  ·rintro i hi
   by_cases hc:(0:Int)<p.caps.length
   ·simp only [go_sem,seval,hc]
    refine fz ?_; simp [qX,qQ,qR,qL,-qYj]
   ·simp only [go_sem,seval,hc]
    refine fz ?_; simp [qX,qQ,qR,qL,-qYj]
 try simp only [go_sem,seval]
 refine wB (ι:=Nat×Bool) (fun i=>.mk [(2,.ptr 10 0 0),(6,.ptr 16 0 0),(7,.bool i.2),(8,.int .i64 i.1)] [(10,2,[yT .bw p]),(16,4,[qY .own m])] 17) (fun i=>i.1≤p.caps.length∧i.2=(qYr i.1).all (fun n=>(uA m.mem.cells p.caps (n:Int)).2||vZ m.mem.cells p.caps (n:Int))∧(i.2=false→(qYr p.caps.length).all (fun n=>(uA m.mem.cells p.caps (n:Int)).2||vZ m.mem.cells p.caps (n:Int))=false)) (fun i=>p.caps.length-i.1) (0,true) (by simp) ?_ ?_
 ·refine Sub.trans (Sub.fold1 16 0 12 rfl (by simp [-gD]<;>omega) rfl (by decide) (by decide) rfl) ?_
  simp only [fS,fS2,qA,qC]
  refine Sub.trans (Sub.fold1 16 1 13 rfl (by simp [-gD]<;>omega) rfl (by decide) (by decide) rfl) ?_
  simp only [fS,fS2,qA,qC]
  refine Sub.trans (Sub.fold1 16 2 14 rfl (by simp [-gD]<;>omega) rfl (by decide) (by decide) rfl) ?_
  simp only [fS,fS2,qA,qC]
  refine Sub.trans (Sub.fold1 16 3 15 rfl (by simp [-gD]<;>omega) rfl (by decide) (by decide) rfl) ?_
  simp only [fS,fS2,qA,qC]
  refine Sub.shape [] id (by omega) ?_ ?_ ?_ ?_<;>simp [qN]
 ·rintro ⟨i,b⟩ ⟨hi,hq,hs⟩
  simp only at hi hq hs⊢
  by_cases hc:(i:Int)<p.caps.length
  case neg =>
   have he:i=p.caps.length:=by omega
   subst he
   simp only [go_sem,seval,hc]
   refine fz ?_; simp [qX,qQ,qR,qL,-qYj]
   exact hq.symm
  have hil:i<p.caps.length:=by omega
  cases b
  ·simp only [go_sem,seval,hc]
   refine fz ?_; simp [qX,qQ,qR,qL,-qYj]
   have:=hs rfl
   simpa using this
  simp only [go_sem,seval,hc]
  refine CA [] (qA1 m.mem.cells p.caps i hm.mem h1) ?_
  try simp only [go_sem,seval]
  have hlk:=tZ m.mem.cells p.caps i hm.mem h1
  have hst:=fun h=>vJ (P:=fun (n:Nat)=>(uA m.mem.cells p.caps (n:Int)).2||vZ m.mem.cells p.caps (n:Int)) hil h
  have hsp:=fun h=>gB (P:=fun (n:Nat)=>(uA m.mem.cells p.caps (n:Int)).2||vZ m.mem.cells p.caps (n:Int)) hq.symm h
  have hsf:=fun h=>vJ (n:=i+1) (P:=fun (n:Nat)=>(uA m.mem.cells p.caps (n:Int)).2||vZ m.mem.cells p.caps (n:Int)) (Nat.lt_succ_self i) h
  generalize uA m.mem.cells p.caps i=q at *
  obtain ⟨c,b⟩:=q
  cases b
  ·try simp only [go_sem,seval]
   refine CA [] (hlk) ?_
   try simp only [go_sem,seval]
   cases hL:vZ m.mem.cells p.caps i
   ·try simp only [go_sem,seval,hL,qW (i:=i) (by omega)]
    refine qV (i+1,false) ?_ ⟨hil,(hsf (by rw [hL]; rfl)).symm,fun _=>hst (by rw [hL]; rfl)⟩ (by omega)
    refine Sub.trans (Sub.fold1 16 2 17 rfl (by simp [-gD]<;>omega) rfl (by decide) (by decide) rfl) ?_
    simp only [fS,fS2,qA,qC]
    refine Sub.shape [] id (by omega) ?_ ?_ ?_ ?_<;>simp [qN]
   ·try simp only [go_sem,seval,hL,qW (i:=i) (by omega)]
    refine qV (i+1,true) ?_ ⟨hil,(hsp (by rw [hL]; rfl)).symm,fun h=>absurd h (by simp)⟩ (by omega)
    refine Sub.trans (Sub.fold1 16 2 17 rfl (by simp [-gD]<;>omega) rfl (by decide) (by decide) rfl) ?_
    simp only [fS,fS2,qA,qC]
    refine Sub.shape [] id (by omega) ?_ ?_ ?_ ?_<;>simp [qN]
  ·try simp only [go_sem,seval,qW (i:=i) (by omega)]
   refine qV (i+1,true) ?_ ⟨hil,(hsp rfl).symm,fun h=>absurd h (by simp)⟩ (by omega)
   refine Sub.trans (Sub.fold1 16 2 17 rfl (by simp [-gD]<;>omega) rfl (by decide) (by decide) rfl) ?_
   simp only [fS,fS2,qA,qC]
   refine Sub.shape [] id (by omega) ?_ ?_ ?_ ?_<;>simp [qN]
end Go.Sep
