/- Contracts of functions. -/
import Derived.Test.YtebbppogicgpkaaGreatSxx46
namespace Go.Sep
set_option maxHeartbeats 16000000
open Go.Proofs
set_option linter.unusedSimpArgs false
set_option linter.unusedVariables false
set_option maxRecDepth 100000
open Nat renaming reduceAdd → qA, reduceMul → qB, reduceEqDiff → qC, reduceBEq → qD
open Int renaming reduceToNat → qE, reduceEq → qF, reduceLT → qG, reduceLE → qH
open List renaming getD_eq_getElem?_getD → gD
theorem qBl (p:wM) :∀(m:qO) (l k:List vD),vH p m (l++k)=vH p m l++vH p (aV m l) k
 | _,[],_=>rfl
 | m,x::l,k=>by simp only [List.cons_append,vH,aV,qBl p _ l k,List.append_assoc]
theorem wBc {p:wM} {m:qO} {x:vD} (h:did p m x=true):0≤x.who∧x.who<m.cores.length:=by
 by_cases hw:0≤x.who∧x.who.toNat<m.cores.length
 ·omega
 ·unfold did at h
  rw [qB2 hw] at h
  exact absurd h (by simp)
theorem qMd (p:wM) :∀(m:qO) (l:List vD),∀w∈vH p m l,0≤w∧w<m.cores.length
 | _,[],w,h=>absurd h (by simp [vH])
 | m,x::l,w,h=>by
  simp only [vH,List.mem_append] at h
  rcases h with h | h
  ·split at h
   ·rename_i hd
    rw [List.mem_singleton.1 h]
    exact wBc hd
   ·exact absurd h (by simp)
  ·have:=qMd p _ l w h
   rw [(iZ m x).1] at this
   exact this
theorem qNx {p:wM} {l:List vD} (h:(wQ p l).2.2=true) (k:Nat):(wQ p (l.take k)).2.2=true∧(wQ p (l.take k)).1.length≤(wQ p l).1.length∧(wQ p l).1.take (wQ p (l.take k)).1.length=(wQ p (l.take k)).1:=by
 have hc:(launch p).2=true∧(l.length:Int)≤4000:=by
  unfold wQ at h
  split at h
  ·rename_i hc
   simpa only [Bool.and_eq_true,decide_eq_true_eq] using hc
  ·exact absurd h (by simp)
 have e1:wQ p l=(vH p (launch p).1 l,aV (launch p).1 l,true):=by
  unfold wQ
  rw [hc.1,decide_eq_true hc.2]
  rfl
 have hlk:((l.take k).length:Int)≤4000:=by have:=hc.2; simp; omega
 have e2:wQ p (l.take k)=(vH p (launch p).1 (l.take k),aV (launch p).1 (l.take k),true):=by
  unfold wQ
  rw [hc.1,decide_eq_true hlk]
  rfl
 have e3:vH p (launch p).1 l=vH p (launch p).1 (l.take k)++vH p (aV (launch p).1 (l.take k)) (l.drop k):=by
  rw [←qBl,List.take_append_drop]
 rw [e1,e2]
 simp only
 rw [e3]
 exact ⟨trivial,by simp,by simp⟩
def m38:MFn:=⟨42,[.cell 2 2 true],kr [xo 2 (.alloc [.nil,.nil])] (kr [xv 4 0,xo 5 (.call 55 [true] [.t 4]),xo 3 (.alloc [.nil,.nil]),xS 2 3 5] (.seq (kr [xv 6 0,xo 7 (.call 39 [true,false] [.t 6,xi 20])] (.blk 0 (kr [bI 9 .eql 7 0,xv 8 9] (.cond 8 (.dreg (.take 0 (xa 10 0 3) (.take 1 (xl 11 10) (.take 2 (xv 12 0) (.only 3 [] (xo 13 (.mkSl [xz] 2 [(0,xi 0),(1,xi 5)])) (.only 4 [2] (xo 14 (.call 56 [true,false] [.t 12,.t 13])) (.only 5 [0,1,2] (xo 15 (.iad 1 (.t 11) (xi 0))) (.only 6 [0,1,2] (xS 1 15 14) (.done))))))))) (kr [bI 17 .eql 7 1,xv 16 17] (.cond 16 (.dreg (.take 0 (xa 18 1 3) (.take 1 (xl 19 18) (.take 2 (xo 20 (.iad 1 (.t 19) (xi 0))) (.take 3 (xl 21 20) (.take 4 (xv 22 0) (.only 5 [] (xa 23 1 3) (.only 6 [] (xl 24 23) (.only 7 [] (xo 25 (.iad 1 (.t 24) (xi 0))) (.only 8 [] (xl 26 25) (.only 9 [] (xo 27 (.iad 5 (.t 26) (xi 0))) (.only 10 [] (xm 28 5 27) (.only 11 [4] (xo 29 (.call 57 [true,false] [.t 22,.t 28])) (.only 12 [0,1,2,3,4] (xo 30 (.iad 5 (.t 21) (xi 0))) (.only 13 [0,1,2,3,4] (xS 5 30 29) (.done)))))))))))))))) (kr [bI 32 .eql 7 2,xv 31 32] (.cond 31 (xr [xa 33 1 3,⟨none,.store 1 (.t 33) (.c (.nil)),none⟩]) (kr [bI 35 .eql 7 3,xv 34 35] (.cond 34 (xr [xa 36 0 3,xl 37 36,xo 38 (.mkSl [xz] 3 [(0,xi 1),(1,xi 1),(2,xi 1)]),xA 39 1 8 37 38,xa 40 0 3,xS 1 40 39]) (.skip))))))))))) (kR [xm 41 2 3,xS 2 2 41])))⟩
def m57:MFn:=⟨38,[.cell 4 5 true],kr [xb 3 1,xo 4 (.alloc [xz,xz,xz,xz,xz])] (.seq (kr [xv 5 0,xo 6 (.call 39 [true,false] [.t 5,xi 8])] (.blk 0 (kr [bI 8 .eql 6 0,xv 7 8] (.cond 7 (xr [xv 9 0,xo 10 (.call 39 [true,false] [.t 9,xi 16]),bI 11 .sub 10 1,xa 12 0 3,xS 1 12 11]) (kr [bI 14 .eql 6 1,xv 13 14] (.cond 13 (xr [xv 15 0,xo 16 (.call 39 [true,false] [.t 15,xi 6]),bI 17 .sub 16 1,xa 18 1 3,xS 1 18 17]) (kr [bI 20 .eql 6 2,xv 19 20] (.cond 19 (xr [xv 21 0,xo 22 (.call 39 [true,false] [.t 21,xi 6]),bI 23 .sub 22 1,xa 24 2 3,xS 1 24 23]) (kr [bI 26 .eql 6 3,xv 25 26] (.cond 25 (xr [xv 27 0,xo 28 (.call 39 [true,false] [.t 27,xi 6]),bI 29 .sub 28 1,xa 30 3 3,xS 1 30 29]) (kr [bI 32 .eql 6 4,xv 31 32] (.cond 31 (xr [xv 33 0,xo 34 (.mkSl [xz] 7 [(0,.c (.int .i64 (-1))),(1,xi 0),(2,xi 3),(3,xi 23),(4,xi 24),(5,xi 1000000000),(6,xi 1000000001)]),xo 35 (.call 56 [true,false] [.t 33,.t 34]),xa 36 4 3,xS 1 36 35]) (.skip))))))))))))) (kR [xm 37 5 3,xS 5 4 37]))⟩
def m184:MFn:=⟨20,[.t 4],kr [xI 4 0] (.seq (kr [xv 5 1,xv 6 0,xe 7 6,bT 8 .lss 5 7] (kF 8 [xv 9 0,xv 10 1,xD 11 1 9 10,xl 12 11,xo 13 (.cvi .i64 (.t 12)),xv 4 13])) (kR [xv 14 1,bI 15 .mul 14 7,xv 16 0,xe 17 16,bT 18 .add 15 17,bI 19 .rem 18 256,xv 4 19]))⟩
def qUw (code:List Int) (k:Int) (c:Cur) (x:Ins):Ins×Cur :=
 if k=0 then (⟨IntKind.i64.wrap ((wD code c 16).1-1),x.r,x.a,x.b,x.n⟩,(wD code c 16).2)
 else if k=1 then (⟨x.op,IntKind.i64.wrap ((wD code c 6).1-1),x.a,x.b,x.n⟩,(wD code c 6).2)
 else if k=2 then (⟨x.op,x.r,IntKind.i64.wrap ((wD code c 6).1-1),x.b,x.n⟩,(wD code c 6).2)
 else if k=3 then (⟨x.op,x.r,x.a,IntKind.i64.wrap ((wD code c 6).1-1),x.n⟩,(wD code c 6).2)
 else if k=4 then (⟨x.op,x.r,x.a,x.b,(pK code c [-1,0,3,23,24,1000000000,1000000001]).1⟩,(pK code c [-1,0,3,23,24,1000000000,1000000001]).2)
 else (x,c)
def qI6 (code:List Int) (c:Cur) (x:Ins):Ins×Cur:=qUw code (wD code c 8).1 (wD code c 8).2 x
theorem qT7 (code:List Int) (c:Cur) (x:Ins) (hb:code.length<2^62):qW Tryz.prog num 57 [.ptr 0 0 0,.agg (bU x)] [(0,some (3,[iR code c]),some (3,[iR code (qI6 code c x).2]))] (.agg (bU (qI6 code c x).1)):=by
 refine EH m57 Tryz.func153 ?_
 unfold m57 qI6
 simp only [go_sem,seval]
 repeat refine K ?_
 refine CA [(0,0)] (yS code c 8 hb) ?_
 try simp only [go_sem,seval]
 repeat refine K ?_
 generalize wD code c 8=k
 try simp only [go_sem,seval]
 repeat refine K ?_
 obtain ⟨k,d⟩:=k
 simp only
 unfold qUw
 by_cases h0:k=0
 ·subst h0
  try simp only [go_sem,seval,reduceCtorEq]
  repeat refine K ?_
  refine CA [(0,0)] (yS code d 16 hb) ?_
  try simp only [go_sem,seval]
  repeat refine K ?_
  try simp only [go_sem,seval]
  repeat refine K ?_
  apply wE
  ·exact Sub.refl _
  ·simp [-List.drop_one,-gD,bU]<;>(first | rfl | exact ⟨rfl,rfl⟩ | exact ⟨rfl,rfl,rfl⟩ | skip)
 by_cases h1:k=1
 ·subst h1
  try simp only [go_sem,seval,reduceCtorEq]
  repeat refine K ?_
  refine CA [(0,0)] (yS code d 6 hb) ?_
  try simp only [go_sem,seval]
  repeat refine K ?_
  try simp only [go_sem,seval]
  repeat refine K ?_
  apply wE
  ·exact Sub.refl _
  ·simp [-List.drop_one,-gD,bU]<;>(first | rfl | exact ⟨rfl,rfl⟩ | exact ⟨rfl,rfl,rfl⟩ | skip)
 by_cases h2:k=2
 ·subst h2
  try simp only [go_sem,seval,reduceCtorEq]
  repeat refine K ?_
  refine CA [(0,0)] (yS code d 6 hb) ?_
  try simp only [go_sem,seval]
  repeat refine K ?_
  try simp only [go_sem,seval]
  repeat refine K ?_
  apply wE
  ·exact Sub.refl _
  ·simp [-List.drop_one,-gD,bU]<;>(first | rfl | exact ⟨rfl,rfl⟩ | exact ⟨rfl,rfl,rfl⟩ | skip)
 by_cases h3:k=3
 ·subst h3
  try simp only [go_sem,seval,reduceCtorEq]
  repeat refine K ?_
  refine CA [(0,0)] (yS code d 6 hb) ?_
  try simp only [go_sem,seval]
  repeat refine K ?_
  try simp only [go_sem,seval]
  repeat refine K ?_
  apply wE
  ·exact Sub.refl _
  ·simp [-List.drop_one,-gD,bU]<;>(first | rfl | exact ⟨rfl,rfl⟩ | exact ⟨rfl,rfl,rfl⟩ | skip)
 by_cases h4:k=4
 ·subst h4
  have hl:wN [-1,0,3,23,24,1000000000,1000000001]=[[AV.int .i64 (-1)],[.int .i64 0],[.int .i64 3],[.int .i64 23],[.int .i64 24],[.int .i64 1000000000],[.int .i64 1000000001]]:=rfl
  try simp only [go_sem,seval,reduceCtorEq,←hl]
  repeat refine K ?_
  refine CA [(0,0)] (sE code d [-1,0,3,23,24,1000000000,1000000001] hb (by decide)) ?_
  try simp only [go_sem,seval]
  repeat refine K ?_
  try simp only [go_sem,seval]
  repeat refine K ?_
  apply wE
  ·exact Sub.refl _
  ·simp [-List.drop_one,-gD,bU]<;>(first | rfl | exact ⟨rfl,rfl⟩ | exact ⟨rfl,rfl,rfl⟩ | skip)
 try simp only [go_sem,seval,h0,h1,h2,h3,h4]
 repeat refine K ?_
 apply wE
 ·exact Sub.refl _
 ·simp [-List.drop_one,-gD,bU,h0,h1,h2,h3,h4]<;>(first | rfl | exact ⟨rfl,rfl⟩ | exact ⟨rfl,rfl,rfl⟩ | skip)
def qTo (code:List Int) (k:Int) (c:Cur) (p:wM):wM×Cur :=
 if k=0 then (⟨p.caps.set 0 (pK code c [0,5]).1,p.bods⟩,(pK code c [0,5]).2)
 else if k=1 then (⟨p.caps,p.bods.set 0 ((p.bods.getD 0 []).set 0 (qI6 code c ((p.bods.getD 0 []).getD 0 default)).1)⟩,(qI6 code c ((p.bods.getD 0 []).getD 0 default)).2)
 else if k=2 then (⟨p.caps,[]⟩,c)
 else if k=3 then (⟨p.caps++[1,1,1],p.bods⟩,c)
 else (p,c)
def qTn (code:List Int) (r:wM×Cur):wM×Cur:=qTo code (wD code r.2 20).1 (wD code r.2 20).2 r.1
def qEc (code:List Int) (c:Cur):wM×Cur:=qTn code (bS code c)
theorem qRo (code:List Int) (c:Cur):(qEc code c).1.caps.length≤6∧(qEc code c).1.bods.length≤4∧∀b∈(qEc code c).1.bods,b.length≤24:=by
 unfold qEc qTn
 obtain ⟨h1,h2,h3,h4,h5⟩:=qAy code c
 generalize bS code c=r at *
 obtain ⟨p,d⟩:=r
 simp only at *
 generalize wD code d 20=k
 unfold qTo
 repeat' split
 ·exact ⟨by simp; omega,h4,fun b hb=>(h5 b hb).2⟩
 ·refine ⟨by simp only; omega,by simp; omega,fun b hb=>?_⟩
  simp only at hb
  rcases List.mem_or_eq_of_mem_set hb with hb | hb
  ·exact (h5 b hb).2
  ·rw [hb,List.length_set]
   exact (h5 _ (wU p.bods 0 [] (by omega))).2
 ·exact ⟨by simp only; omega,by simp,fun b hb=>by simp at hb⟩
 ·exact ⟨by simp; omega,h4,fun b hb=>(h5 b hb).2⟩
 ·exact ⟨by simp only; omega,h4,fun b hb=>(h5 b hb).2⟩
theorem qWw (code:List Int) (c:Cur) (hb:code.length<2^62):qW Tryz.prog num 38 [.ptr 0 0 0] [(0,some (3,[iR code c]),some (3,[iR code (qEc code c).2]))] (.agg (jF .own (qEc code c).1)):=by
 refine EH m38 Tryz.func98 ?_
 unfold m38 qEc
 simp only [go_sem,seval]
 repeat refine K ?_
 refine CA [(0,0)] (nC code c hb) ?_
 try simp only [go_sem,seval]
 repeat refine K ?_
 obtain ⟨g1,g2,g3,g4,g5⟩:=qAy code c
 generalize bS code c=r at *
 obtain ⟨p,d⟩:=r
 simp only at *
 have g6:=g5 _ (wU p.bods 0 [] (by omega))
 try simp only [go_sem,seval]
 repeat refine K ?_
 unfold qTn
 refine CA [(0,0)] (yS code d 20 hb) ?_
 try simp only [go_sem,seval]
 repeat refine K ?_
 try simp only [go_sem,seval]
 repeat refine K ?_
 generalize wD code d 20=k
 obtain ⟨k,d⟩:=k
 simp only
 unfold qTo
 by_cases h0:k=0
 ·subst h0
  have hl:wN [0,5]=[[AV.int .i64 0],[.int .i64 5]]:=rfl
  have h0:=qI p.caps 0 (by omega)
  try simp only [go_sem,seval,reduceCtorEq,←hl,h0]
  repeat refine K ?_
  refine DA [(0,0)] (sE code d [0,5] hb (by decide)) ?_
  try simp only [go_sem,seval]
  repeat refine K ?_
  try simp only [go_sem,seval,h0]
  repeat refine K ?_
  apply wE
  ·exact Sub.refl _
  ·simp [-List.drop_one,-gD,]<;>(first | rfl | exact ⟨rfl,rfl⟩ | exact ⟨rfl,rfl,rfl⟩ | skip)
 by_cases h1:k=1
 ·subst h1
  have hb0:=wK .own p.bods 0 (by omega)
  have gs :∀r,((jZ .own p.bods).set 0 r).getD 0 []=r:=fun r=>wF _ _ _ _ (by rw [kU]; omega)
  have hx:=uQ (p.bods.getD 0 []) 0 (by omega)
  try simp only [go_sem,seval,reduceCtorEq,hb0,gs,hx]
  repeat refine K ?_
  refine DA [(0,0)] (qT7 code d ((p.bods.getD 0 []).getD 0 default) hb) ?_
  try simp only [go_sem,seval]
  repeat refine K ?_
  try simp only [go_sem,seval,hb0,gs,hx]
  repeat refine K ?_
  apply wE
  ·refine Sub.trans (Sub.foldAt 12 0 14 rfl (by simp [-gD]<;>omega) rfl (by decide) (by decide) rfl (by simp<;>omega)) ?_
   simp only [fS,qA,qC,qCl]
   exact Sub.refl _
  ·simp [-List.drop_one,-gD,]<;>(first | rfl | exact ⟨rfl,rfl⟩ | exact ⟨rfl,rfl,rfl⟩ | skip)
 by_cases h2:k=2
 ·subst h2
  try simp only [go_sem,seval,reduceCtorEq]
  repeat refine K ?_
  apply wE
  ·exact Sub.refl _
  ·simp [-List.drop_one,-gD,qL0]<;>(first | rfl | exact ⟨rfl,rfl⟩ | exact ⟨rfl,rfl,rfl⟩ | skip)
 by_cases h3:k=3
 ·subst h3
  try simp only [go_sem,seval,reduceCtorEq]
  repeat refine K ?_
  apply wE
  ·exact Sub.refl _
  ·simp [-List.drop_one,-gD,wN]<;>(first | rfl | exact ⟨rfl,rfl⟩ | exact ⟨rfl,rfl,rfl⟩ | skip)
 try simp only [go_sem,seval,h0,h1,h2,h3]
 repeat refine K ?_
 apply wE
 ·exact Sub.refl _
 ·simp [-List.drop_one,-gD,h0,h1,h2,h3]<;>(first | rfl | exact ⟨rfl,rfl⟩ | exact ⟨rfl,rfl,rfl⟩ | skip)
def qFp (x:Int):Prop:=0≤x∧x<256
theorem wBu (l:List UInt8) :∀x∈l.map (fun n=>(n.toNat:Int)),qFp x:=fun x hx=>by
 obtain ⟨n,_,rfl⟩:=List.mem_map.1 hx
 have:=n.toNat_lt
 exact ⟨by omega,by omega⟩
def atF (code:List Int) (i:Nat):Int:=if i<code.length then code.getD i 0 else Int.tmod ((i:Int)*7+code.length) 256
theorem wAz (code:List Int) (i:Nat) (hb:code.length<2^62) (hi:i<2^30) (hby :∀x∈code,qFp x):qW Tryz.prog num 184 [.sl .bw 1 (bys code),.int .i64 i] [] (.int .i64 (atF code i)):=by
 refine EN m184 Tryz.func29 ?_
 unfold m184
 by_cases h:i<code.length
 ·have hx:=hby _ (wU code i 0 h)
  unfold qFp at hx
  have q:IntKind.i64.wrap (code.getD i 0)=code.getD i 0:=wJ (by omega) (by omega)
  have hh:(i:Int)<code.length:=by omega
  simp only [go_sem,seval,hh,qKx code i h,q]
  repeat refine K ?_
  refine fz ?_; simp [qZ,qU,qV,qQ,-List.drop_one]
  simp [atF,h]
 ·have hh :¬(i:Int)<code.length:=by omega
  have q1:IntKind.i64.wrap ((i:Int)*7)=(i:Int)*7:=wJ (by omega) (by omega)
  have q2:IntKind.i64.wrap ((i:Int)*7+code.length)=(i:Int)*7+code.length:=wJ (by omega) (by omega)
  have q3:IntKind.i64.wrap (Int.tmod ((i:Int)*7+code.length) 256)=Int.tmod ((i:Int)*7+code.length) 256:=by
   have h1:=Int.tmod_nonneg (a:=(i:Int)*7+code.length) 256 (by omega)
   have h2:=Int.tmod_lt_of_pos ((i:Int)*7+code.length) (b:=256) (by omega)
   exact wJ (by omega) (by omega)
  simp only [go_sem,seval,hh,q1,q2,q3]
  repeat refine K ?_
  refine fz ?_; simp [qZ,qU,qV,qQ,-List.drop_one]
  simp [atF,h]
theorem wAn (code:List Int) (i:Nat) (hby :∀x∈code,qFp x):0≤atF code i∧atF code i<256:=by
 unfold atF
 split
 ·rename_i h
  have hx:=hby _ (wU code i 0 h)
  unfold qFp at hx
  omega
 ·exact ⟨Int.tmod_nonneg _ (by omega),Int.tmod_lt_of_pos _ (by omega)⟩
end Go.Sep
