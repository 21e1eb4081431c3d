/- Contracts of functions. -/
import Derived.Test.YtebbppogicgpkaaGreatJxx19
import Derived.Test.YtebbppogicgpkaaGreatJxx20
open Int renaming eq_ofNat_of_zero_le → qYv, tmod_eq_emod_of_nonneg → qYw, toNat_natCast → qYs
open List renaming drop_one → qYj
namespace Go.Sep
set_option maxHeartbeats 16000000
open Go.Proofs
set_option linter.unusedSimpArgs false
set_option linter.unusedVariables false
set_option maxRecDepth 100000
open Nat renaming reduceAdd → qA, reduceMul → qB, reduceEqDiff → qC, reduceBEq → qD
open Int renaming reduceToNat → qE, reduceEq → qF, reduceLT → qG, reduceLE → qH
open List renaming getD_eq_getElem?_getD → gD
def m421:MFn:=⟨91,[.cell 6 3 true,.t 7],kr [xb 3 0,xo 6 (.alloc [.int .i64 0,.nil,.bool false]),xF 7] (kr [xv 14 1,xv 15 2,xc2 16 257 (.t 14) (.t 15),xv 8 16] (.seq (kr [xv 17 8,bI 18 .lss 17 0,xv 19 18,xg 20 (.load 1 true (.t 3)) 19 false,xg 21 (.call 283 [false] [.t 20]) 19 false,zN 22 21 19,xQ 23 19 22] (kF 23 [xo 24 (.build [.int .i64 0,.nil,.bool false] []),xS 3 6 24,xF 7])) (.seq (.dreg (.take 0 (xm 25 1 3) (.take 1 (xv 26 8) (.take 2 (bI 27 .add 26 1) (.take 4 (xm 29 1 3) (.take 5 (xv 30 8) (.take 6 (bI 31 .add 30 2) (.take 8 (xm 33 1 3) (.take 9 (xv 34 8) (.take 10 (bI 35 .add 34 3) (.only 3 [0,2,1] (xc2 28 434 (.t 25) (.t 27)) (.only 7 [3,4,6,0,2,5,1] (xc2 32 434 (.t 29) (.t 31)) (.only 11 [7,8,10,3,4,6,9,0,2,5,1] (xc2 36 434 (.t 33) (.t 35)) (.only 12 [0,1,2,11,7,8,10,4,6,9,5] (xv 9 28) (.only 13 [0,1,2,4,5,6,12,11,8,10,9] (xv 10 32) (.only 14 [0,1,2,4,5,6,8,9,10] (xv 11 36) (.done))))))))))))))))) (.seq (kr [xv 37 9,xv 38 1,xv 39 2,xD 40 1 38 39,xl 41 40,bI 42 .sub 41 1,xc3 43 64 (.t 37) (xi 0) (.t 42),xN 44 43,xv 45 44,zv 46 10 45,zv 47 1 45,zv 48 2 45,xg 49 (.iad 1 (.t 47) (.t 48)) 45 false,zl 50 1 49 45,xg 51 (.call 64 [false,false,false] [.t 46,xi 0,.t 50]) 45 false,zN 52 51 45,xQ 53 45 52,xv 54 53,zv 55 11 54,xg 56 (.call 64 [false,false,false] [.t 55,xi 0,xi 1]) 54 false,zN 57 56 54,xQ 58 54 57] (kF 58 [xo 59 (.build [.int .i64 0,.nil,.bool false] []),xS 3 6 59,xF 7])) (kr [xv 60 1,xv 61 2,xD 62 1 60 61,xl 63 62,xv 64 11,bI 65 .eql 64 1,xo 66 (.build [.int .i64 0,.nil,.bool false] [(0,1,.t 63),(2,1,.t 65)]),xo 12 (.alloc [.int .i64 0,.nil,.bool false]),xS 3 12 66] (.seq (kr [xI 13 0] (.blk 0 (.loop (.seq (kr [xv 67 13,xv 68 10,bT 69 .lss 67 68] (kX 69 0)) (.seq (.blk 1 (.dreg (.take 0 (xa 72 1 12) (.take 1 (xl 73 72) (.take 2 (xm 74 1 3) (.take 3 (xv 75 8) (.take 4 (bI 76 .add 75 4) (.take 5 (xv 77 9) (.take 6 (xv 78 13) (.take 7 (bT 79 .add 77 78) (.take 8 (xv 80 1) (.only 9 [] (xv 81 2) (.only 10 [8] (xD 82 1 80 81) (.only 11 [10,8] (xl 83 82) (.only 12 [7,11,5,6,10,8] (bT 84 .rem 79 83) (.only 13 [4,12,3,7,11,5,6,10,8] (bT 85 .add 76 84) (.only 14 [2,13,4,12,3,7,11,5,6,10,8] (xc2 86 434 (.t 74) (.t 85)) (.only 15 [14,2,13,4,12,3,7,11,5,6,10,8] (xo 87 (.mkSl [xz] 1 [(0,.t 86)])) (.only 16 [1,14,0,2,13,4,12,3,7,11,5,6,10,8] (xA 88 1 8 73 87) (.only 17 [0,1,2,3,4,5,6,7,8] (xa 89 1 12) (.only 18 [0,1,2,3,4,5,6,7,8] (xS 1 89 88) (.done)))))))))))))))))))))) (xr [xv 70 13,bI 71 .add 70 1,xv 13 71])))))) (kR [xm 90 3 12,xS 3 6 90,xT 7])))))))⟩
def m422:MFn:=⟨23,[.t 6],kr [xb 3 0,xF 6] (kr [xv 8 1,xv 9 2,xc2 10 257 (.t 8) (.t 9),xv 7 10] (kR [xv 11 7,bI 12 .geq 11 0,xv 13 12,xg 14 (.load 1 true (.t 3)) 13 true,xg 15 (.call 283 [false] [.t 14]) 13 true,xP 16 13 15,xv 17 16,xg 18 (.load 1 true (.t 3)) 17 true,yv 19 7 17,xg 20 (.call 434 [false,false] [.t 18,.t 19]) 17 true,yI 21 .neq 20 0 17,xP 22 17 21,xv 6 22]))⟩
def m423:MFn:=⟨28,[.cell 6 3 true,.t 7],kr [xb 3 0,xo 6 (.alloc [.int .i64 0,.nil,.bool false]),xF 7] (kr [xv 9 1,xv 10 2,xc2 11 206 (.t 9) (.t 10),xv 8 11] (.seq (kr [xv 12 8,bI 13 .lss 12 0,xv 14 13,xg 15 (.load 1 true (.t 3)) 14 false,xg 16 (.call 286 [false] [.t 15]) 14 false,zN 17 16 14,xQ 18 14 17] (kF 18 [xo 19 (.build [.int .i64 0,.nil,.bool false] []),xS 3 6 19,xF 7])) (kR [xv 20 8,xv 21 1,xv 22 2,xD 23 1 21 22,xl 24 23,xc3 25 435 (.t 3) (.t 20) (.t 24),xX 26 25 0,xX 27 25 1,xS 3 6 26,xv 7 27])))⟩
def m424:MFn:=⟨22,[.t 6],kr [xb 3 0,xF 6] (kr [xv 8 1,xv 9 2,xc2 10 206 (.t 8) (.t 9),xv 7 10] (kR [xv 11 7,bI 12 .geq 11 0,xv 13 12,xg 14 (.load 1 true (.t 3)) 13 true,xg 15 (.call 286 [false] [.t 14]) 13 true,xP 16 13 15,xv 17 16,yv 18 7 17,xg 19 (.call 436 [false,false] [.t 3,.t 18]) 17 true,yI 20 .neq 19 0 17,xP 21 17 20,xv 6 21]))⟩
def m434:MFn:=⟨18,[.t 4],kr [xb 2 0,xI 4 0] (kr [xa 6 0 2,xl 7 6,xv 8 1,xD 9 1 7 8,xl 10 9,xv 5 10] (kR [xv 11 5,xv 12 5,xe 13 12,bI 14 .sub 13 1,xD 15 2 11 14,xa 16 0 15,xl 17 16,xv 4 17]))⟩
def m435:MFn:=⟨67,[.cell 6 3 true,.t 7],kr [xo 6 (.alloc [.int .i64 0,.nil,.bool false]),xF 7] (kr [xv 13 0,xv 14 1,bI 15 .add 14 1,xc2 16 436 (.t 13) (.t 15),xv 17 0,xv 18 1,bI 19 .add 18 2,xc2 20 436 (.t 17) (.t 19),xv 21 0,xv 22 1,bI 23 .add 22 3,xc2 24 436 (.t 21) (.t 23),xv 8 16,xv 9 20,xv 10 24] (.seq (kr [xv 25 8,xv 26 2,bI 27 .sub 26 1,xc3 28 59 (.t 25) (xi 0) (.t 27),xN 29 28,xv 30 29,zv 31 9 30,zv 32 2 30,xg 33 (.call 59 [false,false,false] [.t 31,xi 0,.t 32]) 30 false,zN 34 33 30,xQ 35 30 34,xv 36 35,zv 37 10 36,xg 38 (.call 59 [false,false,false] [.t 37,xi 0,xi 1]) 36 false,zN 39 38 36,xQ 40 36 39] (kF 40 [xo 41 (.build [.int .i64 0,.nil,.bool false] []),xS 3 6 41,xF 7])) (kr [xv 42 2,xv 43 10,bI 44 .eql 43 1,xo 45 (.build [.int .i64 0,.nil,.bool false] [(0,1,.t 42),(2,1,.t 44)]),xo 11 (.alloc [.int .i64 0,.nil,.bool false]),xS 3 11 45] (.seq (kr [xv 46 9,xI 47 0] (.blk 0 (.loop (kr [bT 48 .lss 47 46] (.seq (kX 48 0) (.seq (.blk 1 (kr [xv 49 47,xv 12 49] (.dreg (.take 0 (xa 50 1 11) (.take 1 (xl 51 50) (.take 2 (xv 52 0) (.take 3 (xv 53 1) (.take 4 (bI 54 .add 53 4) (.take 5 (xv 55 8) (.take 6 (xv 56 12) (.take 7 (bT 57 .add 55 56) (.only 8 [] (xv 58 2) (.only 9 [7,5,6] (bT 59 .rem 57 58) (.only 10 [4,9,3,7,5,6] (bT 60 .add 54 59) (.only 11 [2,10,4,9,3,7,5,6] (xc2 61 436 (.t 52) (.t 60)) (.only 12 [11,2,10,4,9,3,7,5,6] (xo 62 (.mkSl [xz] 1 [(0,.t 61)])) (.only 13 [1,11,0,2,10,4,9,3,7,5,6] (xA 63 1 8 51 62) (.only 14 [0,1,2,3,4,5,6,7] (xa 64 1 11) (.only 15 [0,1,2,3,4,5,6,7] (xS 1 64 63) (.done)))))))))))))))))))) (xr [bI 65 .add 47 1,xv 47 65]))))))) (kR [xm 66 3 11,xS 3 6 66,xT 7])))))⟩
def m436:MFn:=⟨20,[.t 4],kr [xI 4 0] (kr [xv 6 0,xk 7 6,xa 8 0 7,xl 9 8,xv 10 1,xD 11 1 9 10,xl 12 11,xv 5 12] (kR [xv 13 5,xv 14 5,xe 15 14,bI 16 .sub 15 1,xD 17 2 13 16,xa 18 0 17,xl 19 18,xv 4 19]))⟩
def jA (cs:List (List wX)) (c:Nat):Int:=((cs.getD c []).getD ((cs.getD c []).length-1) default).v
def dD:bR:=⟨0,[],false⟩
def nA (cs:List (List wX)) (b:Nat) (room f:Int) (k:Nat):List Int:=(List.range k).map fun (i:Nat)=>jA cs (b+4+((f+(i:Int))%room).toNat)
theorem qHo (cs:List (List wX)) (b:Nat) (room f:Int) (k:Nat):nA cs b room f (k+1)=nA cs b room f k++[jA cs (b+4+((f+k)%room).toNat)]:=by
 unfold nA
 rw [List.range_succ,List.map_append]
 rfl
theorem lD (cs:List (List wX)) (b:Nat) (room f:Int) (k:Nat):(nA cs b room f k).length=k:=by simp [nA]
def zQ (cs:List (List wX)) (b:Nat) (room:Int):bR×Bool :=
 if qO (jA cs (b+1)) 0 (room-1)&&qO (jA cs (b+2)) 0 room&&qO (jA cs (b+3)) 0 1 then
  (⟨room,nA cs b room (jA cs (b+1)) (jA cs (b+2)).toNat,decide (jA cs (b+3)=1)⟩,true)
 else (dD,false)
def uA (cs:List (List wX)) (caps:List Int) (n:Int):bR×Bool :=
 if !decide (base caps n<0)&&uL cs then zQ cs (base caps n).toNat (caps.getD n.toNat 0) else (dD,false)
def vZ (cs:List (List wX)) (caps:List Int) (n:Int):Bool:=decide (0≤base caps n)&&uL cs&&!decide (jA cs (base caps n).toNat=0)
theorem kA (cs:List (List wX)) (c:Nat) (hm:lF cs) (hc:c<24):qU Tryz.prog num 436 [.fptr .bw (uM .bw ⟨cs⟩) 0,.int .i64 c] [] (.int .i64 (jA cs c)):=by
 refine EN m436 Tryz.func79 ?_
 unfold m436
 have hcl:c<cs.length:=by rw [hm.len]; exact hc
 have hcg:=vD .bw cs c hcl
 obtain ⟨h1,h2⟩:=hm.cell c hc
 have hwg:=fD .bw (cs.getD c []) ((cs.getD c []).length-1) (by omega)
 have hv:((cs.getD c []).getD ((cs.getD c []).length-1) default).v=jA cs c:=rfl
 rw [hv] at hwg
 generalize cs.getD c []=l at *
 have w1:IntKind.i64.wrap ((l.length:Int)-1)=((l.length-1:Nat):Int):=by rw [wM (by omega) (by omega)]; omega
 simp only [go_sem,seval,hcg,w1,hwg]
 repeat refine K ?_
 refine fz ?_; simp [qX,qQ,qR,qL,-qYj]
theorem cO (cs:List (List wX)) (c:Nat) (hm:lF cs) (hc:c<24):qU Tryz.prog num 434 [.agg (uM .bw ⟨cs⟩),.int .i64 c] [] (.int .i64 (jA cs c)):=by
 refine EN m434 Tryz.func173 ?_
 unfold m434
 have hcl:c<cs.length:=by rw [hm.len]; exact hc
 have hcg:=vD .bw cs c hcl
 obtain ⟨h1,h2⟩:=hm.cell c hc
 have hwg:=fD .bw (cs.getD c []) ((cs.getD c []).length-1) (by omega)
 have hv:((cs.getD c []).getD ((cs.getD c []).length-1) default).v=jA cs c:=rfl
 rw [hv] at hwg
 generalize cs.getD c []=l at *
 have w1:IntKind.i64.wrap ((l.length:Int)-1)=((l.length-1:Nat):Int):=by rw [wM (by omega) (by omega)]; omega
 simp only [go_sem,seval,hcg,w1,hwg]
 repeat refine K ?_
 refine fz ?_; simp [qX,qQ,qR,qL,-qYj]
theorem qHa (cs:List (List wX)) (b:Nat) (room:Int) (hm:lF cs) (hr:qO room 1 4=true) (hb:(b:Int)+room+4≤24):qU Tryz.prog num 435 [.fptr .bw (uM .bw ⟨cs⟩) 0,.int .i64 b,.int .i64 room] [] (.tup [.agg (bK .own (zQ cs b room).1),.bool (zQ cs b room).2]):=by
 refine EN m435 Tryz.func78 ?_
 unfold m435
 rw [qP] at hr
 have e1:IntKind.i64.wrap ((b:Int)+1)=((b+1:Nat):Int):=by rw [wM (by omega) (by omega)]; omega
 have e2:IntKind.i64.wrap ((b:Int)+2)=((b+2:Nat):Int):=by rw [wM (by omega) (by omega)]; omega
 have e3:IntKind.i64.wrap ((b:Int)+3)=((b+3:Nat):Int):=by rw [wM (by omega) (by omega)]; omega
 have e4:IntKind.i64.wrap ((b:Int)+4)=((b+4:Nat):Int):=by rw [wM (by omega) (by omega)]; omega
 have er:IntKind.i64.wrap (room-1)=room-1:=wM (by omega) (by omega)
 simp only [go_sem,seval,e1]
 refine CA [] (kA cs (b+1) hm (by omega)) ?_
 try simp only [go_sem,seval]
 try simp only [go_sem,seval,e2]
 refine CA [] (kA cs (b+2) hm (by omega)) ?_
 try simp only [go_sem,seval]
 try simp only [go_sem,seval,e3]
 refine CA [] (kA cs (b+3) hm (by omega)) ?_
 try simp only [go_sem,seval]
 try simp only [go_sem,seval,er]
 refine CA [] (yD (jA cs (b+1)) 0 (room-1)) ?_
 try simp only [go_sem,seval]
 cases hw1:qO (jA cs (b+1)) 0 (room-1)
 ·have hr:zQ cs b room=(dD,false):=by simp [zQ,hw1]
  rw [hr]
  try simp only [go_sem,seval,hw1]
  apply wG (by simp)
  ·exact Sub.refl _
  ·simp [-qYj,-gD,bK,dD,uD]<;>(first | rfl | exact ⟨rfl,rfl⟩ | exact ⟨rfl,rfl,rfl⟩ | skip)
 try simp only [go_sem,seval,hw1]
 refine CA [] (yD (jA cs (b+2)) 0 room) ?_
 try simp only [go_sem,seval]
 cases hw2:qO (jA cs (b+2)) 0 room
 ·have hr:zQ cs b room=(dD,false):=by simp [zQ,hw2]
  rw [hr]
  try simp only [go_sem,seval,hw2]
  apply wG (by simp)
  ·exact Sub.refl _
  ·simp [-qYj,-gD,bK,dD,uD]<;>(first | rfl | exact ⟨rfl,rfl⟩ | exact ⟨rfl,rfl,rfl⟩ | skip)
 try simp only [go_sem,seval,hw2]
 refine CA [] (yD (jA cs (b+3)) 0 1) ?_
 try simp only [go_sem,seval]
 cases hw3:qO (jA cs (b+3)) 0 1
 ·have hr:zQ cs b room=(dD,false):=by simp [zQ,hw3]
  rw [hr]
  try simp only [go_sem,seval,hw3]
  apply wG (by simp)
  ·exact Sub.refl _
  ·simp [-qYj,-gD,bK,dD,uD]<;>(first | rfl | exact ⟨rfl,rfl⟩ | exact ⟨rfl,rfl,rfl⟩ | skip)
 have hr:zQ cs b room=(⟨room,nA cs b room (jA cs (b+1)) (jA cs (b+2)).toNat,decide (jA cs (b+3)=1)⟩,true):=by simp [zQ,hw1,hw2,hw3]
 rw [hr]
 try simp only [go_sem,seval,hw3]
 rw [qP] at hw1 hw2
 obtain ⟨N,hN⟩:=qYv hw2.1
 rw [hN] at hw2⊢
 simp only [qYs]
 generalize hf:jA cs (b+1)=f at *
 generalize hcl:decide (jA cs (b+3)=1)=cl at *
 refine wB (ι:=Nat) (fun i=>.mk [(0,.fptr .bw (uM .bw ⟨cs⟩) 0),(1,.int .i64 b),(2,.int .i64 room),(6,.ptr 10 0 0),(8,.int .i64 f),(11,.ptr 11 0 0),(46,.int .i64 N),(47,.int .i64 i)] [(10,3,[[.int .i64 0,.nil,.bool false]]),(11,3,[bK .own ⟨room,nA cs b room f i,cl⟩])] 12) (fun i=>i≤N) (fun i=>N-i) 0 (by simp) ?_ ?_
 ·refine Sub.shape [] id (by omega) ?_ ?_ ?_ ?_<;>simp [qN]
  all_goals simp [nA,wQ]
 ·rintro i hi
  simp only [go_sem,seval]
  refine qM (fun hc=>?_) (fun hc=>?_)
  ·simp only [decide_eq_true_eq] at hc
   have hi':i<N:=by omega
   have m1:0≤(f+i)%room:=Int.emod_nonneg _ (by omega)
   have m2:(f+i)%room<room:=Int.emod_lt_of_pos _ (by omega)
   have w1:IntKind.i64.wrap (f+i)=f+i:=wM (by omega) (by omega)
   have w2:(f+i).tmod room=(f+i)%room:=qYw (by omega)
   have w3:IntKind.i64.wrap (((b+4:Nat):Int)+(f+i)%room)=((b+4+((f+i)%room).toNat:Nat):Int):=by rw [wM (by omega) (by omega)]; omega
   have es:=qHo cs b room f i
   have hll:=lD cs b room f i
   have hne :¬room=0:=by omega
   simp only [go_sem,seval,w1,w2,w3,e4,hne,qW (i:=i) (by omega),hll]
   repeat refine K ?_
   refine DA [] (kA cs (b+4+((f+i)%room).toNat) hm (by omega)) ?_
   try simp only [go_sem,seval]
   repeat refine K ?_
   try simp only [go_sem,seval,qW (i:=i) (by omega),hll]
   refine qV (i+1) ?_ hi' (by omega)
   rw [es]
   refine Sub.trans (Sub.fold1 11 1 14 rfl (by simp [-gD]<;>omega) rfl (by decide) (by decide) rfl) ?_
   simp only [fS,fS2,qA,qC]
   refine Sub.shape [] id (by omega) ?_ ?_ ?_ ?_<;>simp [qN]
   all_goals simp [wQ,hll]
  ·simp only [decide_eq_false_iff_not] at hc
   obtain rfl:i=N:=by omega
   simp only [go_sem,seval]
   apply wG (by simp)
   ·exact Sub.refl _
   ·simp [-qYj,-gD,bK]<;>(first | rfl | exact ⟨rfl,rfl⟩ | exact ⟨rfl,rfl,rfl⟩ | skip)
theorem qK3 {cs:List (List wX)} {caps:List Int} {n:Int} (h1 :¬base caps n<0) (h2:uL cs=true):uA cs caps n=zQ cs (base caps n).toNat (caps.getD n.toNat 0):=by
 unfold uA
 rw [h2,decide_eq_false h1]
 rfl
theorem oO {cs:List (List wX)} {caps:List Int} {n:Int} (h:base caps n<0∨uL cs=false):uA cs caps n=(dD,false):=by
 unfold uA
 rcases h with h | h
 ·rw [decide_eq_true h]
  rfl
 ·rw [h,Bool.and_false]
  rfl
theorem qAb (cs:List (List wX)) (caps:List Int) (n:Int) (hs:qB5 cs) (hl:caps.length<2^40):qU Tryz.prog num 423 [.agg (uM .bw ⟨cs⟩),.sl .bw 1 (wQ caps),.int .i64 n] [] (.tup [.agg (bK .own (uA cs caps n).1),.bool (uA cs caps n).2]):=by
 refine EN m423 Tryz.func21 ?_
 unfold m423
 simp only [go_sem,seval]
 refine CA [] (kB caps n hl) ?_
 try simp only [go_sem,seval]
 by_cases hb:base caps n<0
 ·rw [oO (.inl hb)]
  try simp only [go_sem,seval,hb]
  apply wG (by simp)
  ·exact Sub.refl _
  ·simp [-qYj,-gD,bK,dD,uD]<;>(first | rfl | exact ⟨rfl,rfl⟩ | exact ⟨rfl,rfl,rfl⟩ | skip)
 try simp only [go_sem,seval,hb]
 refine CA [] (kQ cs hs) ?_
 try simp only [go_sem,seval]
 cases hk:uL cs
 ·rw [oO (.inr hk)]
  try simp only [go_sem,seval,hk]
  apply wG (by simp)
  ·exact Sub.refl _
  ·simp [-qYj,-gD,bK,dD,uD]<;>(first | rfl | exact ⟨rfl,rfl⟩ | exact ⟨rfl,rfl,rfl⟩ | skip)
 rw [qK3 hb hk]
 obtain ⟨n0,n1,_,b0,b1,b2⟩:=aR hb
 obtain ⟨i,rfl⟩:=qYv n0
 simp only [qYs] at n1 b1 b2⊢
 obtain ⟨b,hbb⟩:=qYv b0
 rw [hbb] at hb b1⊢
 have hig:=qI caps i n1
 try simp only [go_sem,seval,hk,hb,hig,hbb]
 repeat refine K ?_
 refine CA [] (qHa cs b (caps.getD i 0) ((eZ cs).1 hk) b2 (by omega)) ?_
 try simp only [go_sem,seval]
 apply wG (by simp)
 ·exact Sub.refl _
 ·simp [-qYj,-gD,bK]<;>(first | rfl | exact ⟨rfl,rfl⟩ | exact ⟨rfl,rfl,rfl⟩ | skip)
theorem qA9 (cs:List (List wX)) (caps:List Int) (n:Int) (hs:qB5 cs) (hl:caps.length<2^40):qU Tryz.prog num 424 [.agg (uM .bw ⟨cs⟩),.sl .bw 1 (wQ caps),.int .i64 n] [] (.bool (vZ cs caps n)):=by
 refine EN m424 Tryz.func22 ?_
 unfold m424
 simp only [go_sem,seval]
 refine CA [] (kB caps n hl) ?_
 try simp only [go_sem,seval]
 by_cases hb:base caps n<0
 ·have hb' :¬0≤base caps n:=by omega
  try simp only [go_sem,seval,hb']
  refine fz ?_; simp [qX,qQ,qR,qL,-qYj]
  all_goals simp [vZ,hb']
 have hb':0≤base caps n:=by omega
 try simp only [go_sem,seval,hb']
 refine CA [] (kQ cs hs) ?_
 try simp only [go_sem,seval]
 cases hk:uL cs
 ·try simp only [go_sem,seval,hk,hb']
  refine fz ?_; simp [qX,qQ,qR,qL,-qYj]
  all_goals simp [vZ,hk]
 obtain ⟨n0,n1,_,b0,b1,b2⟩:=aR hb
 rw [qP] at b2
 obtain ⟨b,hbb⟩:=qYv b0
 try simp only [go_sem,seval,hk,hb',hbb]
 refine CA [] (kA cs b ((eZ cs).1 hk) (by omega)) ?_
 try simp only [go_sem,seval]
 refine fz ?_; simp [qX,qQ,qR,qL,-qYj]
 all_goals simp [vZ,hk,hbb]
theorem qA1 (cs:List (List wX)) (caps:List Int) (n:Int) (hs:qB5 cs) (hl:caps.length<2^40):qU Tryz.prog num 421 [.agg (uM .bw ⟨cs⟩),.sl .bw 1 (wQ caps),.int .i64 n] [] (.tup [.agg (bK .own (uA cs caps n).1),.bool (uA cs caps n).2]):=by
 refine EN m421 Tryz.func130 ?_
 unfold m421
 simp only [go_sem,seval]
 refine CA [] (mN caps n hl) ?_
 try simp only [go_sem,seval]
 by_cases hb:base caps n<0
 ·rw [oO (.inl hb)]
  try simp only [go_sem,seval,hb]
  apply wG (by simp)
  ·exact Sub.refl _
  ·simp [-qYj,-gD,bK,dD,uD]<;>(first | rfl | exact ⟨rfl,rfl⟩ | exact ⟨rfl,rfl,rfl⟩ | skip)
 try simp only [go_sem,seval,hb]
 refine CA [] (kM cs hs) ?_
 try simp only [go_sem,seval]
 cases hk:uL cs
 ·rw [oO (.inr hk)]
  try simp only [go_sem,seval,hk]
  apply wG (by simp)
  ·exact Sub.refl _
  ·simp [-qYj,-gD,bK,dD,uD]<;>(first | rfl | exact ⟨rfl,rfl⟩ | exact ⟨rfl,rfl,rfl⟩ | skip)
 rw [qK3 hb hk]
 obtain ⟨n0,n1,_,b0,b1,hr⟩:=aR hb
 obtain ⟨q,rfl⟩:=qYv n0
 simp only [qYs] at n1 b1 hr⊢
 obtain ⟨b,hbb⟩:=qYv b0
 rw [hbb] at hb b1⊢
 have hig:=qI caps q n1
 have hm:=(eZ cs).1 hk
 generalize hroom:caps.getD q 0=room at *
 simp only [qYs]
 rw [qP] at hr
 have e1:IntKind.i64.wrap ((b:Int)+1)=((b+1:Nat):Int):=by rw [wM (by omega) (by omega)]; omega
 have e2:IntKind.i64.wrap ((b:Int)+2)=((b+2:Nat):Int):=by rw [wM (by omega) (by omega)]; omega
 have e3:IntKind.i64.wrap ((b:Int)+3)=((b+3:Nat):Int):=by rw [wM (by omega) (by omega)]; omega
 have e4:IntKind.i64.wrap ((b:Int)+4)=((b+4:Nat):Int):=by rw [wM (by omega) (by omega)]; omega
 have er:IntKind.i64.wrap (room-1)=room-1:=wM (by omega) (by omega)
 try simp only [go_sem,seval,hk,hb,hig,hbb,e1,e2,e3]
 repeat refine K ?_
 refine DA [] (cO cs (b+1) hm (by omega)) ?_
 try simp only [go_sem,seval]
 refine DA [] (cO cs (b+2) hm (by omega)) ?_
 try simp only [go_sem,seval]
 refine DA [] (cO cs (b+3) hm (by omega)) ?_
 try simp only [go_sem,seval]
 repeat refine K ?_
 try simp only [go_sem,seval,er,hig]
 refine CA [] (yM (jA cs (b+1)) 0 (room-1)) ?_
 try simp only [go_sem,seval]
 cases hw1:qO (jA cs (b+1)) 0 (room-1)
 ·have hr:zQ cs b room=(dD,false):=by simp [zQ,hw1]
  rw [hr]
  try simp only [go_sem,seval,hw1]
  apply wG (by simp)
  ·exact Sub.refl _
  ·simp [-qYj,-gD,bK,dD,uD]<;>(first | rfl | exact ⟨rfl,rfl⟩ | exact ⟨rfl,rfl,rfl⟩ | skip)
 try simp only [go_sem,seval,hw1,hig]
 repeat refine K ?_
 refine CA [] (yM (jA cs (b+2)) 0 room) ?_
 try simp only [go_sem,seval]
 cases hw2:qO (jA cs (b+2)) 0 room
 ·have hr:zQ cs b room=(dD,false):=by simp [zQ,hw2]
  rw [hr]
  try simp only [go_sem,seval,hw2]
  apply wG (by simp)
  ·exact Sub.refl _
  ·simp [-qYj,-gD,bK,dD,uD]<;>(first | rfl | exact ⟨rfl,rfl⟩ | exact ⟨rfl,rfl,rfl⟩ | skip)
 try simp only [go_sem,seval,hw2]
 refine CA [] (yM (jA cs (b+3)) 0 1) ?_
 try simp only [go_sem,seval]
 cases hw3:qO (jA cs (b+3)) 0 1
 ·have hr:zQ cs b room=(dD,false):=by simp [zQ,hw3]
  rw [hr]
  try simp only [go_sem,seval,hw3]
  apply wG (by simp)
  ·exact Sub.refl _
  ·simp [-qYj,-gD,bK,dD,uD]<;>(first | rfl | exact ⟨rfl,rfl⟩ | exact ⟨rfl,rfl,rfl⟩ | skip)
 have hrr:zQ cs b room=(⟨room,nA cs b room (jA cs (b+1)) (jA cs (b+2)).toNat,decide (jA cs (b+3)=1)⟩,true):=by simp [zQ,hw1,hw2,hw3]
 rw [hrr]
 try simp only [go_sem,seval,hw3,hig]
 repeat refine K ?_
 rw [qP] at hw1 hw2
 obtain ⟨N,hN⟩:=qYv hw2.1
 rw [hN] at hw2⊢
 simp only [qYs]
 clear hrr
 generalize hf:jA cs (b+1)=f at *
 generalize hcl:decide (jA cs (b+3)=1)=cl at *
 refine wB (ι:=Nat) (fun i=>.mk [(1,.sl .bw 1 (wQ caps)),(2,.int .i64 q),(3,.ptr 10 0 0),(6,.ptr 11 0 0),(8,.int .i64 b),(9,.int .i64 f),(10,.int .i64 N),(12,.ptr 12 0 0),(13,.int .i64 i)] [(10,1,[uM .bw ⟨cs⟩]),(11,3,[[.int .i64 0,.nil,.bool false]]),(12,3,[bK .own ⟨room,nA cs b room f i,cl⟩])] 13) (fun i=>i≤N) (fun i=>N-i) 0 (by simp) ?_ ?_
 ·refine Sub.shape [] id (by omega) ?_ ?_ ?_ ?_<;>simp [qN]
  all_goals simp [nA,wQ]
 ·rintro i hi
  simp only [go_sem,seval]
  refine qM (fun hc=>?_) (fun hc=>?_)
  ·simp only [decide_eq_true_eq] at hc
   have hi':i<N:=by omega
   have m1:0≤(f+i)%room:=Int.emod_nonneg _ (by omega)
   have m2:(f+i)%room<room:=Int.emod_lt_of_pos _ (by omega)
   have w1:IntKind.i64.wrap (f+i)=f+i:=wM (by omega) (by omega)
   have w2:(f+i).tmod room=(f+i)%room:=qYw (by omega)
   have w3:IntKind.i64.wrap (((b+4:Nat):Int)+(f+i)%room)=((b+4+((f+i)%room).toNat:Nat):Int):=by rw [wM (by omega) (by omega)]; omega
   have es:=qHo cs b room f i
   have hll:=lD cs b room f i
   have hne :¬room=0:=by omega
   simp only [go_sem,seval,w1,w2,w3,e4,hne,hig,qW (i:=i) (by omega),hll]
   repeat refine K ?_
   refine DA [] (cO cs (b+4+((f+i)%room).toNat) hm (by omega)) ?_
   try simp only [go_sem,seval]
   repeat refine K ?_
   try simp only [go_sem,seval,qW (i:=i) (by omega),hll]
   refine qV (i+1) ?_ hi' (by omega)
   rw [es]
   refine Sub.trans (Sub.fold1 12 1 15 rfl (by simp [-gD]<;>omega) rfl (by decide) (by decide) rfl) ?_
   simp only [fS,fS2,qA,qC]
   refine Sub.shape [] id (by omega) ?_ ?_ ?_ ?_<;>simp [qN]
   all_goals simp [wQ,hll]
  ·simp only [decide_eq_false_iff_not] at hc
   obtain rfl:i=N:=by omega
   simp only [go_sem,seval]
   apply wG (by simp)
   ·exact Sub.refl _
   ·simp [-qYj,-gD,bK]<;>(first | rfl | exact ⟨rfl,rfl⟩ | exact ⟨rfl,rfl,rfl⟩ | skip)
theorem tZ (cs:List (List wX)) (caps:List Int) (n:Int) (hs:qB5 cs) (hl:caps.length<2^40):qU Tryz.prog num 422 [.agg (uM .bw ⟨cs⟩),.sl .bw 1 (wQ caps),.int .i64 n] [] (.bool (vZ cs caps n)):=by
 refine EN m422 Tryz.func129 ?_
 unfold m422
 simp only [go_sem,seval]
 refine CA [] (mN caps n hl) ?_
 try simp only [go_sem,seval]
 by_cases hb:base caps n<0
 ·have hb' :¬0≤base caps n:=by omega
  try simp only [go_sem,seval,hb']
  refine fz ?_; simp [qX,qQ,qR,qL,-qYj]
  all_goals simp [vZ,hb']
 have hb':0≤base caps n:=by omega
 try simp only [go_sem,seval,hb']
 refine CA [] (kM cs hs) ?_
 try simp only [go_sem,seval]
 cases hk:uL cs
 ·try simp only [go_sem,seval,hk,hb']
  refine fz ?_; simp [qX,qQ,qR,qL,-qYj]
  all_goals simp [vZ,hk]
 obtain ⟨n0,n1,_,b0,b1,b2⟩:=aR hb
 rw [qP] at b2
 obtain ⟨b,hbb⟩:=qYv b0
 try simp only [go_sem,seval,hk,hb',hbb]
 refine CA [] (cO cs b ((eZ cs).1 hk) (by omega)) ?_
 try simp only [go_sem,seval]
 refine fz ?_; simp [qX,qQ,qR,qL,-qYj]
 all_goals simp [vZ,hk,hbb]
end Go.Sep
