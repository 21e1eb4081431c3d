/- Contracts of functions. -/
import Derived.Test.YtebbppogicgpkaaGreatSxx43
import Derived.Test.YtebbppogicgpkaaGreatSxx47
namespace Go.Sep
set_option maxHeartbeats 16000000
open Go.Proofs
set_option linter.unusedSimpArgs false
set_option linter.unusedVariables false
set_option maxRecDepth 100000
open List renaming getD_eq_getElem?_getD → gD
def m447:MFn:=⟨13,[.cell 2 2 true,.t 3],kr [xo 2 (.alloc [.nil,.nil]),xo 3 (.mv (.c (.nil)))] (kr [xv 7 0,xo 8 (.call 466 [true] [.t 7]),xv 6 8,xX 9 6 0,xX 10 6 1,xo 4 (.alloc [.nil,.nil]),xS 2 4 9,xv 5 10] (kR [xm 11 2 4,xv 12 5,xS 2 2 11,xv 3 12]))⟩
def m466:MFn:=⟨26,[.cell 2 2 true,.t 3],kr [xo 2 (.alloc [.nil,.nil]),xo 3 (.mv (.c (.nil)))] (kr [xv 6 0,xo 7 (.call 37 [true] [.t 6]),xv 4 7] (kr [xv 8 4,xo 9 (.call 55 [true] [.t 8]),xo 5 (.alloc [.nil,.nil]),xS 2 5 9] (.seq (kr [xv 10 4,xo 11 (.call 40 [true,false] [.t 10,xi 12])] (.cond 11 (xr [xv 12 4,xo 13 (.call 38 [true] [.t 12]),xS 2 5 13]) (.skip))) (.seq (.dreg (.take 0 (xm 14 2 5) (.take 1 (xv 15 4) (.take 2 (xa 16 1 5) (.take 3 (xl 17 16) (.take 4 (xe 18 17) (.take 5 (xv 19 4) (.take 9 (xv 23 0) (.only 6 [5] (xo 20 (.call 39 [true,false] [.t 19,xi 6])) (.take 7 (bI 21 .quo 20 5) (.take 8 (bT 22 .add 18 21) (.only 10 [6,9,5] (xc3 24 213 (.t 23) (xi 40) (xi 110)) (.only 11 [1,8,10,4,7,6,9,3,5,2] (xo 25 (.call 463 [true,false,false] [.t 15,.t 22,.t 24])) (.only 12 [0,11,1,8,10,4,7,6,9,3,5,2] (xS 2 2 14) (.only 13 [0,1,2,3,4,5,7,8,9] (xv 3 25) (.done)))))))))))))))) (.ret)))))⟩
def qL4 (code:List Int) (r:wM×Cur):wM×Cur:=if (mW code r.2 12).1 then qEc code (mW code r.2 12).2 else (r.1,(mW code r.2 12).2)
def qVe (code:List Int) (q:wM×Cur):wM×List vD:=(q.1,(iH code (wD code q.2 6).2 (q.1.bods.length+(wD code q.2 6).1/5) (pR code.length 40 110)).1)
def qMc (code:List Int):wM×List vD:=qVe code (qL4 code (bS code (oW code)))
theorem qL3 (code:List Int) (c:Cur):(qL4 code (bS code c)).1.caps.length≤6∧(qL4 code (bS code c)).1.bods.length≤4∧∀b∈(qL4 code (bS code c)).1.bods,b.length≤24:=by
 obtain ⟨h1,h2,h3,h4,h5⟩:=qAy code c
 unfold qL4
 split
 ·exact qRo code _
 ·exact ⟨by simp only; omega,by simp only; omega,fun b hb=>(h5 b hb).2⟩
theorem wAo (code:List Int):bF (qMc code).1∧(qMc code).2.length≤660∧∀x∈(qMc code).2,tT x:=by
 have hm:=qDo code.length (show (40:Int)≤110 by omega)
 obtain ⟨h1,h2,h3⟩:=qL3 code (oW code)
 refine ⟨⟨by show (qL4 code (bS code (oW code))).1.caps.length<_; omega,by show (qL4 code (bS code (oW code))).1.bods.length<_; omega,fun b hb=>by have:=h3 b hb; omega⟩,?_,qDr⟩
 unfold qMc qVe
 simp only
 obtain ⟨m,hm2⟩:=Int.eq_ofNat_of_zero_le (show 0≤pR code.length 40 110 by omega)
 rw [hm2]
 have:=qDs code (wD code (qL4 code (bS code (oW code))).2 6).2 ((qL4 code (bS code (oW code))).1.bods.length+(wD code (qL4 code (bS code (oW code))).2 6).1/5) (most:=m)
 omega
theorem qLu (code:List Int) (hb:code.length<2^62):qW Tryz.prog num 466 [.sl .fz 1 (bys code)] [] (.tup [.agg (jF .own (qMc code).1),.sl .own 2 (uZ (qMc code).2)]):=by
 have hm:=qDo code.length (show (40:Int)≤110 by omega)
 have hsm:=qL3 code (oW code)
 refine EN m466 Tryz.func95 ?_
 unfold m466 qMc
 simp only [go_sem,seval]
 repeat refine K ?_
 refine hX (qPb (n1:=12) [(10,11)] (qR1 code hb) ?_ ?_ ?_ ?_ ?_ ?_ ?_) ?_
 any_goals (first | omega | (simp [qU,qV]; done) | (simp [qU,qV, *]; done))
 try simp only [go_sem,seval]
 repeat refine K ?_
 refine CA [(0,11)] (nC code (oW code) hb) ?_
 try simp only [go_sem,seval]
 repeat refine K ?_
 generalize bS code (oW code)=r at hsm
 obtain ⟨p,d⟩:=r
 unfold qL4 at hsm⊢
 simp only at hsm⊢
 try simp only [go_sem,seval]
 repeat refine K ?_
 refine CA [(0,11)] (qN3 code d 12 hb) ?_
 try simp only [go_sem,seval]
 repeat refine K ?_
 generalize mW code d 12=z at hsm
 obtain ⟨bo,e⟩:=z
 cases bo
 ·simp only [Bool.false_eq_true,if_false] at hsm⊢
  unfold qVe
  simp only
  have hr:=vA code e 6 (by omega)
  generalize hg:wD code e 6=g at hr
  obtain ⟨x,f⟩:=g
  simp only at hr⊢
  have q0:Int.tdiv x 5=x/5:=Int.tdiv_eq_ediv_of_nonneg (by omega)
  have q1:IntKind.i64.wrap (x/5)=x/5:=wJ (by omega) (by omega)
  have q2:IntKind.i64.wrap ((p.bods.length:Int)+x/5)=p.bods.length+x/5:=wJ (by omega) (by omega)
  have cb:=yS code e 6 hb
  rw [hg] at cb
  try simp only [go_sem,seval]
  repeat refine K ?_
  refine DA [(0,11)] (cb) ?_
  try simp only [go_sem,seval]
  repeat refine K ?_
  try simp only [go_sem,seval,q0,q1,q2]
  repeat refine K ?_
  refine DA [] (qFo code 40 110 hb (by omega)) ?_
  try simp only [go_sem,seval]
  repeat refine K ?_
  generalize pR code.length 40 110=w at hm
  refine DA [(0,11)] (nB code f (p.bods.length+x/5) w hb (by omega)) ?_
  try simp only [go_sem,seval]
  repeat refine K ?_
  try simp only [go_sem,seval]
  repeat refine K ?_
  apply wS (by simp)
  ·exact Sub.refl _
  ·simp [-List.drop_one,-gD,qK]<;>(first | rfl | exact ⟨rfl,rfl⟩ | exact ⟨rfl,rfl,rfl⟩ | skip)
 ·simp only [if_true] at hsm⊢
  try simp only [go_sem,seval]
  repeat refine K ?_
  refine CA [(0,11)] (qWw code e hb) ?_
  try simp only [go_sem,seval]
  repeat refine K ?_
  generalize qEc code e=y at hsm
  obtain ⟨p,e⟩:=y
  simp only at hsm⊢
  unfold qVe
  simp only
  have hr:=vA code e 6 (by omega)
  generalize hg:wD code e 6=g at hr
  obtain ⟨x,f⟩:=g
  simp only at hr⊢
  have q0:Int.tdiv x 5=x/5:=Int.tdiv_eq_ediv_of_nonneg (by omega)
  have q1:IntKind.i64.wrap (x/5)=x/5:=wJ (by omega) (by omega)
  have q2:IntKind.i64.wrap ((p.bods.length:Int)+x/5)=p.bods.length+x/5:=wJ (by omega) (by omega)
  have cb:=yS code e 6 hb
  rw [hg] at cb
  try simp only [go_sem,seval]
  repeat refine K ?_
  refine DA [(0,11)] (cb) ?_
  try simp only [go_sem,seval]
  repeat refine K ?_
  try simp only [go_sem,seval,q0,q1,q2]
  repeat refine K ?_
  refine DA [] (qFo code 40 110 hb (by omega)) ?_
  try simp only [go_sem,seval]
  repeat refine K ?_
  generalize pR code.length 40 110=w at hm
  refine DA [(0,11)] (nB code f (p.bods.length+x/5) w hb (by omega)) ?_
  try simp only [go_sem,seval]
  repeat refine K ?_
  try simp only [go_sem,seval]
  repeat refine K ?_
  apply wS (by simp)
  ·exact Sub.refl _
  ·simp [-List.drop_one,-gD,qK]<;>(first | rfl | exact ⟨rfl,rfl⟩ | exact ⟨rfl,rfl,rfl⟩ | skip)
theorem qKi (code:List Int) (hb:code.length<2^62):qW Tryz.prog num 447 [.sl .fz 1 (bys code)] [] (.tup [.agg (jF .own (qMc code).1),.sl .own 2 (uZ (qMc code).2)]):=by
 refine EN m447 Tryz.func34 ?_
 unfold m447
 simp only [go_sem,seval]
 repeat refine K ?_
 refine CA [] (qLu code hb) ?_
 try simp only [go_sem,seval]
 repeat refine K ?_
 try simp only [go_sem,seval]
 repeat refine K ?_
 apply wS (by simp)
 ·exact Sub.refl _
 ·simp [-List.drop_one,-gD,qK]<;>(first | rfl | exact ⟨rfl,rfl⟩ | exact ⟨rfl,rfl,rfl⟩ | skip)
end Go.Sep
