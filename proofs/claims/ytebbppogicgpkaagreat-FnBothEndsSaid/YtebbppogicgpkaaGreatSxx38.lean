/- Contracts of functions. -/
import Derived.Test.YtebbppogicgpkaaGreatSxx14
namespace Go.Sep
set_option maxHeartbeats 16000000
open Go.Proofs
set_option linter.unusedSimpArgs false
set_option linter.unusedVariables false
set_option maxRecDepth 100000
open Nat renaming reduceAdd → qA, reduceMul → qB, reduceEqDiff → qC, reduceBEq → qD
open Int renaming reduceToNat → qE, reduceEq → qF, reduceLT → qG, reduceLE → qH
open List renaming getD_eq_getElem?_getD → gD
def m423:MFn:=⟨28,[.cell 6 3 true,.t 7],kr [xb 3 0,xo 6 (.alloc [.int .i64 0,.nil,.bool false]),xF 7] (kr [xv 9 1,xv 10 2,xc2 11 206 (.t 9) (.t 10),xv 8 11] (.seq (kr [xv 12 8,bI 13 .lss 12 0,xv 14 13,xg 15 (.load 1 true (.t 3)) 14 false,xg 16 (.call 286 [false] [.t 15]) 14 false,zN 17 16 14,xQ 18 14 17] (kF 18 [xo 19 (.build [.int .i64 0,.nil,.bool false] []),xS 3 6 19,xF 7])) (kR [xv 20 8,xv 21 1,xv 22 2,xD 23 1 21 22,xl 24 23,xc3 25 435 (.t 3) (.t 20) (.t 24),xX 26 25 0,xX 27 25 1,xS 3 6 26,xv 7 27])))⟩
def m424:MFn:=⟨22,[.t 6],kr [xb 3 0,xF 6] (kr [xv 8 1,xv 9 2,xc2 10 206 (.t 8) (.t 9),xv 7 10] (kR [xv 11 7,bI 12 .geq 11 0,xv 13 12,xg 14 (.load 1 true (.t 3)) 13 true,xg 15 (.call 286 [false] [.t 14]) 13 true,xP 16 13 15,xv 17 16,yv 18 7 17,xg 19 (.call 436 [false,false] [.t 3,.t 18]) 17 true,yI 20 .neq 19 0 17,xP 21 17 20,xv 6 21]))⟩
def m435:MFn:=⟨67,[.cell 6 3 true,.t 7],kr [xo 6 (.alloc [.int .i64 0,.nil,.bool false]),xF 7] (kr [xv 13 0,xv 14 1,bI 15 .add 14 1,xc2 16 436 (.t 13) (.t 15),xv 17 0,xv 18 1,bI 19 .add 18 2,xc2 20 436 (.t 17) (.t 19),xv 21 0,xv 22 1,bI 23 .add 22 3,xc2 24 436 (.t 21) (.t 23),xv 8 16,xv 9 20,xv 10 24] (.seq (kr [xv 25 8,xv 26 2,bI 27 .sub 26 1,xc3 28 59 (.t 25) (xi 0) (.t 27),xN 29 28,xv 30 29,zv 31 9 30,zv 32 2 30,xg 33 (.call 59 [false,false,false] [.t 31,xi 0,.t 32]) 30 false,zN 34 33 30,xQ 35 30 34,xv 36 35,zv 37 10 36,xg 38 (.call 59 [false,false,false] [.t 37,xi 0,xi 1]) 36 false,zN 39 38 36,xQ 40 36 39] (kF 40 [xo 41 (.build [.int .i64 0,.nil,.bool false] []),xS 3 6 41,xF 7])) (kr [xv 42 2,xv 43 10,bI 44 .eql 43 1,xo 45 (.build [.int .i64 0,.nil,.bool false] [(0,1,.t 42),(2,1,.t 44)]),xo 11 (.alloc [.int .i64 0,.nil,.bool false]),xS 3 11 45] (.seq (kr [xv 46 9,xI 47 0] (.blk 0 (.loop (kr [bT 48 .lss 47 46] (.seq (kX 48 0) (.seq (.blk 1 (kr [xv 49 47,xv 12 49] (.dreg (.take 0 (xa 50 1 11) (.take 1 (xl 51 50) (.take 2 (xv 52 0) (.take 3 (xv 53 1) (.take 4 (bI 54 .add 53 4) (.take 5 (xv 55 8) (.take 6 (xv 56 12) (.take 7 (bT 57 .add 55 56) (.only 8 [] (xv 58 2) (.only 9 [7,5,6] (bT 59 .rem 57 58) (.only 10 [4,9,3,7,5,6] (bT 60 .add 54 59) (.only 11 [2,10,4,9,3,7,5,6] (xc2 61 436 (.t 52) (.t 60)) (.only 12 [11,2,10,4,9,3,7,5,6] (xo 62 (.mkSl [xz] 1 [(0,.t 61)])) (.only 13 [1,11,0,2,10,4,9,3,7,5,6] (xA 63 1 8 51 62) (.only 14 [0,1,2,3,4,5,6,7] (xa 64 1 11) (.only 15 [0,1,2,3,4,5,6,7] (xS 1 64 63) (.done)))))))))))))))))))) (xr [bI 65 .add 47 1,xv 47 65]))))))) (kR [xm 66 3 11,xS 3 6 66,xT 7])))))⟩
def m436:MFn:=⟨20,[.t 4],kr [xI 4 0] (kr [xv 6 0,xk 7 6,xa 8 0 7,xl 9 8,xv 10 1,xD 11 1 9 10,xl 12 11,xv 5 12] (kR [xv 13 5,xv 14 5,xe 15 14,bI 16 .sub 15 1,xD 17 2 13 16,xa 18 0 17,xl 19 18,xv 4 19]))⟩
theorem qTz (cs:List (List wY)) (b:Nat) (room f:Int) (k:Nat):qAm cs b room f (k+1)=qAm cs b room f k++[jX cs (b+4+((f+k)%room).toNat)]:=by
 unfold qAm
 rw [List.range_succ,List.map_append]
 rfl
theorem lD (cs:List (List wY)) (c:Nat) (hm:nM cs) (hc:c<24):qW Tryz.prog num 436 [.fptr .bw (uD .bw ⟨cs⟩) 0,.int .i64 c] [] (.int .i64 (jX cs c)):=by
 refine EN m436 Tryz.func79 ?_
 unfold m436
 have hcl:c<cs.length:=by rw [hm.len]; exact hc
 have hcg:=vE .bw cs c hcl
 obtain ⟨h1,h2⟩:=hm.cell c hc
 have hwg:=eY .bw (cs.getD c []) ((cs.getD c []).length-1) (by omega)
 have hv:((cs.getD c []).getD ((cs.getD c []).length-1) default).v=jX cs c:=rfl
 rw [hv] at hwg
 generalize cs.getD c []=l at *
 have w1:IntKind.i64.wrap ((l.length:Int)-1)=((l.length-1:Nat):Int):=by rw [wJ (by omega) (by omega)]; omega
 simp only [go_sem,seval,hcg,w1,hwg]
 repeat refine K ?_
 refine fz ?_; simp [qZ,qU,qV,qQ,-List.drop_one]
theorem qJv (cs:List (List wY)) (b:Nat) (room:Int) (hm:nM cs) (hr:qP room 1 4=true) (hb:(b:Int)+room+4≤24):qW Tryz.prog num 435 [.fptr .bw (uD .bw ⟨cs⟩) 0,.int .i64 b,.int .i64 room] [] (.tup [.agg (aL .own (fW cs b room).1),.bool (fW cs b room).2]):=by
 refine EN m435 Tryz.func78 ?_
 unfold m435
 rw [qN] at hr
 have e1:IntKind.i64.wrap ((b:Int)+1)=((b+1:Nat):Int):=by rw [wJ (by omega) (by omega)]; omega
 have e2:IntKind.i64.wrap ((b:Int)+2)=((b+2:Nat):Int):=by rw [wJ (by omega) (by omega)]; omega
 have e3:IntKind.i64.wrap ((b:Int)+3)=((b+3:Nat):Int):=by rw [wJ (by omega) (by omega)]; omega
 have e4:IntKind.i64.wrap ((b:Int)+4)=((b+4:Nat):Int):=by rw [wJ (by omega) (by omega)]; omega
 have er:IntKind.i64.wrap (room-1)=room-1:=wJ (by omega) (by omega)
 simp only [go_sem,seval,e1]
 refine CA [] (lD cs (b+1) hm (by omega)) ?_
 try simp only [go_sem,seval]
 try simp only [go_sem,seval,e2]
 refine CA [] (lD cs (b+2) hm (by omega)) ?_
 try simp only [go_sem,seval]
 try simp only [go_sem,seval,e3]
 refine CA [] (lD cs (b+3) hm (by omega)) ?_
 try simp only [go_sem,seval]
 try simp only [go_sem,seval,er]
 refine CA [] (yE (jX cs (b+1)) 0 (room-1)) ?_
 try simp only [go_sem,seval]
 cases hw1:qP (jX cs (b+1)) 0 (room-1)
 ·have hr:fW cs b room=(cO,false):=by simp [fW,hw1]
  rw [hr]
  try simp only [go_sem,seval,hw1]
  apply wS (by simp)
  ·exact Sub.refl _
  ·simp [-List.drop_one,-gD,aL,cO,gU]<;>(first | rfl | exact ⟨rfl,rfl⟩ | exact ⟨rfl,rfl,rfl⟩ | skip)
 try simp only [go_sem,seval,hw1]
 refine CA [] (yE (jX cs (b+2)) 0 room) ?_
 try simp only [go_sem,seval]
 cases hw2:qP (jX cs (b+2)) 0 room
 ·have hr:fW cs b room=(cO,false):=by simp [fW,hw2]
  rw [hr]
  try simp only [go_sem,seval,hw2]
  apply wS (by simp)
  ·exact Sub.refl _
  ·simp [-List.drop_one,-gD,aL,cO,gU]<;>(first | rfl | exact ⟨rfl,rfl⟩ | exact ⟨rfl,rfl,rfl⟩ | skip)
 try simp only [go_sem,seval,hw2]
 refine CA [] (yE (jX cs (b+3)) 0 1) ?_
 try simp only [go_sem,seval]
 cases hw3:qP (jX cs (b+3)) 0 1
 ·have hr:fW cs b room=(cO,false):=by simp [fW,hw3]
  rw [hr]
  try simp only [go_sem,seval,hw3]
  apply wS (by simp)
  ·exact Sub.refl _
  ·simp [-List.drop_one,-gD,aL,cO,gU]<;>(first | rfl | exact ⟨rfl,rfl⟩ | exact ⟨rfl,rfl,rfl⟩ | skip)
 have hr:fW cs b room=(⟨room,qAm cs b room (jX cs (b+1)) (jX cs (b+2)).toNat,decide (jX cs (b+3)=1)⟩,true):=by simp [fW,hw1,hw2,hw3]
 rw [hr]
 try simp only [go_sem,seval,hw3]
 rw [qN] at hw1 hw2
 obtain ⟨N,hN⟩:=Int.eq_ofNat_of_zero_le hw2.1
 rw [hN] at hw2⊢
 simp only [Int.toNat_natCast]
 generalize hf:jX cs (b+1)=f at *
 generalize hcl:decide (jX cs (b+3)=1)=cl at *
 refine qX (ι:=Nat) (fun i=>.mk [(0,.fptr .bw (uD .bw ⟨cs⟩) 0),(1,.int .i64 b),(2,.int .i64 room),(6,.ptr 10 0 0),(8,.int .i64 f),(11,.ptr 11 0 0),(46,.int .i64 N),(47,.int .i64 i)] [(10,3,[[.int .i64 0,.nil,.bool false]]),(11,3,[aL .own ⟨room,qAm cs b room f i,cl⟩])] 12) (fun i=>i≤N) (fun i=>N-i) 0 (by simp) ?_ ?_
 ·refine Sub.shape [] id (by omega) ?_ ?_ ?_ ?_<;>simp [qK]
  all_goals simp [qAm,wN]
 ·rintro i hi
  simp only [go_sem,seval]
  refine qL (fun hc=>?_) (fun hc=>?_)
  ·simp only [decide_eq_true_eq] at hc
   have hi':i<N:=by omega
   have m1:0≤(f+i)%room:=Int.emod_nonneg _ (by omega)
   have m2:(f+i)%room<room:=Int.emod_lt_of_pos _ (by omega)
   have w1:IntKind.i64.wrap (f+i)=f+i:=wJ (by omega) (by omega)
   have w2:(f+i).tmod room=(f+i)%room:=Int.tmod_eq_emod_of_nonneg (by omega)
   have w3:IntKind.i64.wrap (((b+4:Nat):Int)+(f+i)%room)=((b+4+((f+i)%room).toNat:Nat):Int):=by rw [wJ (by omega) (by omega)]; omega
   have es:=qTz cs b room f i
   have hll:=sQ cs b room f i
   have hne :¬room=0:=by omega
   simp only [go_sem,seval,w1,w2,w3,e4,hne,qS (i:=i) (by omega),hll]
   repeat refine K ?_
   refine DA [] (lD cs (b+4+((f+i)%room).toNat) hm (by omega)) ?_
   try simp only [go_sem,seval]
   repeat refine K ?_
   try simp only [go_sem,seval,qS (i:=i) (by omega),hll]
   refine qT (i+1) ?_ hi' (by omega)
   rw [es]
   refine Sub.trans (Sub.fold1 11 1 14 rfl (by simp [-gD]<;>omega) rfl (by decide) (by decide) rfl) ?_
   simp only [fS,fS2,qA,qC]
   refine Sub.shape [] id (by omega) ?_ ?_ ?_ ?_<;>simp [qK]
   all_goals simp [wN,hll]
  ·simp only [decide_eq_false_iff_not] at hc
   obtain rfl:i=N:=by omega
   simp only [go_sem,seval]
   apply wS (by simp)
   ·exact Sub.refl _
   ·simp [-List.drop_one,-gD,aL]<;>(first | rfl | exact ⟨rfl,rfl⟩ | exact ⟨rfl,rfl,rfl⟩ | skip)
theorem qXf {cs:List (List wY)} {caps:List Int} {n:Int} (h1 :¬base caps n<0) (h2:uT cs=true):dQ cs caps n=fW cs (base caps n).toNat (caps.getD n.toNat 0):=by
 unfold dQ
 rw [h2,decide_eq_false h1]
 rfl
theorem qNh {cs:List (List wY)} {caps:List Int} {n:Int} (h:base caps n<0∨uT cs=false):dQ cs caps n=(cO,false):=by
 unfold dQ
 rcases h with h | h
 ·rw [decide_eq_true h]
  rfl
 ·rw [h,Bool.and_false]
  rfl
theorem oY (cs:List (List wY)) (caps:List Int) (n:Int) (hs:qG4 cs) (hl:caps.length<2^40):qW Tryz.prog num 423 [.agg (uD .bw ⟨cs⟩),.sl .bw 1 (wN caps),.int .i64 n] [] (.tup [.agg (aL .own (dQ cs caps n).1),.bool (dQ cs caps n).2]):=by
 refine EN m423 Tryz.func21 ?_
 unfold m423
 simp only [go_sem,seval]
 refine CA [] (lE caps n hl) ?_
 try simp only [go_sem,seval]
 by_cases hb:base caps n<0
 ·rw [qNh (.inl hb)]
  try simp only [go_sem,seval,hb]
  apply wS (by simp)
  ·exact Sub.refl _
  ·simp [-List.drop_one,-gD,aL,cO,gU]<;>(first | rfl | exact ⟨rfl,rfl⟩ | exact ⟨rfl,rfl,rfl⟩ | skip)
 try simp only [go_sem,seval,hb]
 refine CA [] (lQ cs hs) ?_
 try simp only [go_sem,seval]
 cases hk:uT cs
 ·rw [qNh (.inr hk)]
  try simp only [go_sem,seval,hk]
  apply wS (by simp)
  ·exact Sub.refl _
  ·simp [-List.drop_one,-gD,aL,cO,gU]<;>(first | rfl | exact ⟨rfl,rfl⟩ | exact ⟨rfl,rfl,rfl⟩ | skip)
 rw [qXf hb hk]
 obtain ⟨n0,n1,_,b0,b1,b2⟩:=kJ hb
 obtain ⟨i,rfl⟩:=Int.eq_ofNat_of_zero_le n0
 simp only [Int.toNat_natCast] at n1 b1 b2⊢
 obtain ⟨b,hbb⟩:=Int.eq_ofNat_of_zero_le b0
 rw [hbb] at hb b1⊢
 have hig:=qI caps i n1
 try simp only [go_sem,seval,hk,hb,hig,hbb]
 repeat refine K ?_
 refine CA [] (qJv cs b (caps.getD i 0) ((mB cs).1 hk) b2 (by omega)) ?_
 try simp only [go_sem,seval]
 apply wS (by simp)
 ·exact Sub.refl _
 ·simp [-List.drop_one,-gD,aL]<;>(first | rfl | exact ⟨rfl,rfl⟩ | exact ⟨rfl,rfl,rfl⟩ | skip)
theorem oX (cs:List (List wY)) (caps:List Int) (n:Int) (hs:qG4 cs) (hl:caps.length<2^40):qW Tryz.prog num 424 [.agg (uD .bw ⟨cs⟩),.sl .bw 1 (wN caps),.int .i64 n] [] (.bool (aB cs caps n)):=by
 refine EN m424 Tryz.func22 ?_
 unfold m424
 simp only [go_sem,seval]
 refine CA [] (lE caps n hl) ?_
 try simp only [go_sem,seval]
 by_cases hb:base caps n<0
 ·have hb' :¬0≤base caps n:=by omega
  try simp only [go_sem,seval,hb']
  refine fz ?_; simp [qZ,qU,qV,qQ,-List.drop_one]
  all_goals simp [aB,hb']
 have hb':0≤base caps n:=by omega
 try simp only [go_sem,seval,hb']
 refine CA [] (lQ cs hs) ?_
 try simp only [go_sem,seval]
 cases hk:uT cs
 ·try simp only [go_sem,seval,hk,hb']
  refine fz ?_; simp [qZ,qU,qV,qQ,-List.drop_one]
  all_goals simp [aB,hk]
 obtain ⟨n0,n1,_,b0,b1,b2⟩:=kJ hb
 rw [qN] at b2
 obtain ⟨b,hbb⟩:=Int.eq_ofNat_of_zero_le b0
 try simp only [go_sem,seval,hk,hb',hbb]
 refine CA [] (lD cs b ((mB cs).1 hk) (by omega)) ?_
 try simp only [go_sem,seval]
 refine fz ?_; simp [qZ,qU,qV,qQ,-List.drop_one]
 all_goals simp [aB,hk,hbb]
theorem qF3 {p:wM} (h:vF p=true):bF p:=by
 simp only [vF,Bool.and_eq_true,decide_eq_true_eq,qN] at h
 obtain ⟨⟨⟨hb,h1⟩,_⟩,h2⟩:=h
 refine ⟨by omega,by omega,fun b hb'=>?_⟩
 have:=List.all_eq_true.1 hb b hb'
 simp only [vI,Bool.and_eq_true,qN] at this
 omega
end Go.Sep
