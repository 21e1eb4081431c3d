/- Contracts of functions. -/
import Derived.Test.YtbfklilhgekabaaPxx23
open List renaming drop_one → qYu
namespace Go.Sep
set_option maxHeartbeats 16000000
open Go.Proofs
set_option linter.unusedSimpArgs false
set_option linter.unusedVariables false
set_option maxRecDepth 100000
open Nat renaming reduceAdd → qA, reduceMul → qB, reduceEqDiff → qC, reduceBEq → qD
open Int renaming reduceToNat → qE, reduceEq → qF, reduceLT → qG, reduceLE → qH
open List renaming getD_eq_getElem?_getD → gD
def m144:MFn:=⟨43,[.cell 6 3 true,.t 7],kr [xb 3 0,xb 4 1,xo 6 (.alloc [.nil,.nil,.nil]),xI 7 0] (.seq (kr [xm 12 2 3,xm 13 3 4,xc2 14 50 (.t 12) (.t 13),xN 15 14] (kF 15 [xo 16 (.build [.nil,.nil,.nil] []),xS 3 6 16,xI 7 0])) (kr [xm 17 3 4,xc1 18 49 (.t 17),xo 8 (.alloc [.nil,.nil,.nil]),xS 3 8 18] (kr [xI 9 0] (.seq (kr [xI 10 0] (.blk 0 (.loop (.seq (kr [xv 19 10,xv 20 2,bT 21 .lss 19 20,xv 22 21,yv 23 10 22,yI 24 .lss 23 200 22,xP 25 22 24] (kX 25 0)) (.seq (.blk 1 (kr [xa 28 0 8,xl 29 28,xe 30 29,xI 31 0] (.blk 2 (.loop (kr [bT 32 .lss 31 30] (.seq (kX 32 2) (.seq (.blk 3 (kr [xv 33 31,xv 11 33] (kr [xm 34 2 3,xv 35 11,xo 36 (.call 43 [false,true,false] [.t 34,.t 8,.t 35]),bI 37 .eql 36 0] (.cond 37 (xr [xv 38 9,bI 39 .add 38 1,xv 9 39]) (.skip))))) (xr [bI 40 .add 31 1,xv 31 40])))))))) (xr [xv 26 10,bI 27 .add 26 1,xv 10 27])))))) (kR [xm 41 3 8,xv 42 9,xS 3 6 41,xv 7 42])))))⟩
def fI (rounds:Int):Nat:=(if rounds<200 then rounds else 200).toNat
theorem qT4 (r:Int):fI r≤200:=by unfold fI; split<;>omega
theorem qT3 {r:Int} {i:Nat}:((i:Int)<r∧(i:Int)<200)↔i<fI r:=by unfold fI; split<;>omega
theorem qBg (p:wJ) (s:qR) (rounds:Int) (hp:iC p) (hs:qH5 s):wM Try.prog num 144 [.agg (gQ .bw p),.agg (uB .bw s),.int .i64 rounds] [] (.tup [.agg (uB .own (qE1 p s rounds).1),.int .i64 (qE1 p s rounds).2]):=by
 refine EN m144 Try.func10 ?_
 unfold m144
 simp only [go_sem,seval]
 repeat refine K ?_
 refine CA [] (qBy p s hp hs) ?_
 try simp only [go_sem,seval]
 repeat refine K ?_
 cases hok:qW p s
 ·try simp only [go_sem,seval,hok]
  repeat refine K ?_
  apply qIg (by simp)
  ·exact Sub.refl _
  ·simp [-qYu,-gD,qE1,hok,qAz,qGx,qGa]<;>(first | rfl | exact ⟨rfl,rfl⟩ | exact ⟨rfl,rfl,rfl⟩ | skip)
 try simp only [go_sem,seval,hok]
 repeat refine K ?_
 refine CA [] (qFg s hs) ?_
 try simp only [go_sem,seval]
 repeat refine K ?_
 try simp only [go_sem,seval]
 repeat refine K ?_
 have hf:qE1 p s rounds=zR p s (fI rounds):=by unfold qE1; rw [if_pos hok]; rfl
 rw [hf]
 refine yC (ι:=Nat) (fun i=>.mk [(2,.int .i64 rounds),(3,.ptr 10 0 0),(6,.ptr 12 0 0),(8,.ptr 16 0 0),(9,.int .i64 (zR p s i).2),(10,.int .i64 i)] [(10,2,[gQ .bw p]),(12,3,[[.nil,.nil,.nil]]),(16,3,[uB .own (zR p s i).1])] 17) (fun i=>i≤fI rounds) (fun i=>fI rounds-i) 0 (by simp) ?_ ?_
 ·refine Sub.trans (Sub.fold1 16 0 13 rfl (by simp [-gD]<;>omega) rfl (by decide) (by decide) rfl) ?_
  simp only [fS,qA,qC]
  refine Sub.trans (Sub.fold1 16 1 14 rfl (by simp [-gD]<;>omega) rfl (by decide) (by decide) rfl) ?_
  simp only [fS,qA,qC]
  refine Sub.trans (Sub.fold1 16 2 15 rfl (by simp [-gD]<;>omega) rfl (by decide) (by decide) rfl) ?_
  simp only [fS,qA,qC]
  refine Sub.shape [] id (by omega) ?_ ?_ ?_ ?_<;>simp [qX]
  all_goals simp [zR]
 ·intro i hi
  obtain ⟨hso,c0,c1⟩:=qKm hok i
  have hK:=qT4 rounds
  have hlt:=@qT3 rounds i
  have hthen:i<fI rounds→(i:Int)<rounds∧(i:Int)<200:=fun h=>hlt.2 h
  obtain ⟨t1,t2⟩:=qI0 hso
  have hnext:zR p s (i+1)=gZ p p.bods.length (zR p s i):=rfl
  by_cases hc:i<fI rounds
  ·obtain ⟨g1,g2⟩:=hthen hc
   simp only [go_sem,seval,g1,g2]
   repeat refine K ?_
   refine yC (ι:=Nat) (fun j=>.mk [(2,.int .i64 rounds),(3,.ptr 10 0 0),(6,.ptr 12 0 0),(8,.ptr 16 0 0),(9,.int .i64 (gZ p j (zR p s i)).2),(10,.int .i64 i),(30,.int .i64 p.bods.length),(31,.int .i64 j)] [(10,2,[gQ .bw p]),(12,3,[[.nil,.nil,.nil]]),(16,3,[uB .own (gZ p j (zR p s i)).1])] 17) (fun j=>j≤p.bods.length) (fun j=>p.bods.length-j) 0 (by simp) ?_ ?_
   ·refine Sub.trans (Sub.fold1 16 0 17 rfl (by simp [-gD]<;>omega) rfl (by decide) (by decide) rfl) ?_
    simp only [fS,qA,qC]
    refine Sub.shape [] id (by omega) ?_ ?_ ?_ ?_<;>simp [qX]
    all_goals simp [gZ,t1]
   ·intro j hj
    obtain ⟨hsj,d0,d1⟩:=nC hso c0 c1 j
    have hn2:=pA p j (zR p s i)
    have hss:=lX hsj
    have htr:=mL hsj
    generalize hst:gZ p j (zR p s i)=st at hsj d0 d1 hn2 hss htr
    simp only [go_sem,seval]
    refine wK (fun hc2=>?_) (fun hc2=>?_)
    ·simp only [decide_eq_true_eq] at hc2
     have hj2:j<p.bods.length:=by omega
     simp only [go_sem,seval,wO (i:=j) (by omega)]
     repeat refine K ?_
     refine CA [(0,16)] (qF1 p st.1 j hp hss hsj htr) ?_
     try simp only [go_sem,seval]
     repeat refine K ?_
     by_cases hcode:(qQ p st.1 j).2=0
     ·have w:IntKind.i64.wrap (st.2+1)=st.2+1:=jH (by omega) (by omega)
      try simp only [go_sem,seval,hcode,w,wO (i:=j) (by omega)]
      repeat refine K ?_
      refine wL (j+1) ?_ hj2 (by omega)
      simp only [hn2,sU,hcode]
      refine Sub.shape [] id (by omega) ?_ ?_ ?_ ?_<;>simp [qX]
     ·try simp only [go_sem,seval,hcode,wO (i:=j) (by omega)]
      repeat refine K ?_
      refine wL (j+1) ?_ hj2 (by omega)
      simp only [hn2,sU,hcode]
      refine Sub.shape [] id (by omega) ?_ ?_ ?_ ?_<;>simp [qX]
    ·simp only [decide_eq_false_iff_not] at hc2
     have hje:j=p.bods.length:=by omega
     subst hje
     simp only [go_sem,seval,wO (i:=i) (by omega)]
     repeat refine K ?_
     refine wL (i+1) ?_ hc (by omega)
     simp only [hnext,hst]
     refine Sub.shape [] id (by omega) ?_ ?_ ?_ ?_<;>simp [qX]
  ·have hie:i=fI rounds:=by omega
   subst hie
   have hno :¬((fI rounds:Int)<rounds∧(fI rounds:Int)<200):=fun h=>by have:=hlt.1 h; omega
   by_cases g1:(fI rounds:Int)<rounds
   ·have g2 :¬(fI rounds:Int)<200:=fun h=>hno ⟨g1,h⟩
    simp only [go_sem,seval,g1,g2]
    repeat refine K ?_
    apply qIg (by simp)
    ·exact Sub.refl _
    ·simp [-qYu,-gD,]<;>(first | rfl | exact ⟨rfl,rfl⟩ | exact ⟨rfl,rfl,rfl⟩ | skip)
   ·simp only [go_sem,seval,g1]
    repeat refine K ?_
    apply qIg (by simp)
    ·exact Sub.refl _
    ·simp [-qYu,-gD,]<;>(first | rfl | exact ⟨rfl,rfl⟩ | exact ⟨rfl,rfl,rfl⟩ | skip)
def m157:MFn:=⟨93,[.t 2],kr [xF 2] (.seq (kr [xv 13 0,xc1 14 19 (.t 13)] (kF 14 [xT 2])) (kr [xv 15 0,xo 16 (.call 158 [true] [.t 15]),xo 3 (.alloc [.nil,.nil]),xS 2 3 16] (kr [xm 17 2 3,xc1 18 159 (.t 17),xo 4 (.alloc [.nil,.nil]),xS 2 4 18] (kr [xm 20 2 3,xc1 21 24 (.t 20),xv 19 21,xX 22 19 0,xX 23 19 1,xo 5 (.alloc [.nil,.nil,.nil]),xS 3 5 22,xv 6 23] (kr [xm 25 2 4,xc1 26 24 (.t 25),xv 24 26,xX 27 24 0,xX 28 24 1,xo 7 (.alloc [.nil,.nil,.nil]),xS 3 7 27,xv 8 28] (.seq (kr [xv 29 6,xN 30 29,xv 31 30,zv 32 8 31,zN 33 32 31,xQ 34 31 33] (kF 34 [xF 2])) (kr [xm 36 2 3,xm 37 3 5,xc3 38 144 (.t 36) (.t 37) (xi 120),xv 35 38,xX 39 35 0,xX 40 35 1,xo 9 (.alloc [.nil,.nil,.nil]),xS 3 9 39,xv 10 40] (kr [xm 42 2 4,xm 43 3 7,xc3 44 144 (.t 42) (.t 43) (xi 120),xv 41 44,xX 45 41 0,xX 46 41 1,xo 11 (.alloc [.nil,.nil,.nil]),xS 3 11 45,xv 12 46] (.seq (.dreg (.take 0 (xa 47 2 11) (.take 1 (xl 48 47) (.take 2 (xe 49 48) (.only 3 [] (xa 50 2 9) (.only 4 [] (xl 51 50) (.only 5 [] (xe 52 51) (.only 6 [2,1,0] (bT 53 .geq 49 52) (.only 7 [6,2,1,0] (xv 54 53) (.take 8 (ya 55 2 11 54) (.take 9 (yl 56 1 55 54) (.take 10 (ya 57 2 9 54) (.take 11 (yl 58 1 57 54) (.take 12 (ye 59 58 54) (.take 13 (xg 60 (.cut 2 (.t 56) none (some (.t 59))) 54 true) (.only 14 [7,6,2,1,0] (ya 61 2 9 54) (.only 15 [7,6,2,1,0] (yl 62 1 61 54) (.only 16 [7,13,6,9,12,2,8,11,1,10,0] (xg 63 (.call 160 [false,false] [.t 60,.t 62]) 54 true) (.only 17 [7,16,6,13,2,9,12,1,8,11,0,10] (xP 64 54 63) (.only 18 [16,7,13,6,9,12,2,8,11,1,10,0] (xv 65 64) (.only 19 [18,16,7,13,6,9,12,2,8,11,1,10,0] (ya 66 0 9 65) (.only 20 [18,16,7,13,6,9,12,2,8,11,1,10,0] (yl 67 1 66 65) (.only 21 [18,16,7,13,6,9,12,2,8,11,1,10,0] (xg 68 (.iad 3 (.t 67) (xi 0)) 65 true) (.only 22 [18,16,7,13,6,9,12,2,8,11,1,10,0] (ya 69 2 68 65) (.only 23 [18,16,7,13,6,9,12,2,8,11,1,10,0] (yl 70 1 69 65) (.only 24 [18,16,7,13,6,9,12,2,8,11,1,10,0] (yI 71 .eql 70 0 65) (.only 25 [18,16,7,13,6,9,12,2,8,11,1,10,0] (yv 72 71 65) (.take 26 (za 73 2 9 72) (.take 27 (zl 74 1 73 72) (.only 28 [25,18,16,7,13,6,9,12,2,8,11,1,10,0] (za 75 2 11 72) (.only 29 [25,18,16,7,13,6,9,12,2,8,11,1,10,0] (zl 76 1 75 72) (.only 30 [25,27,18,26,16,7,13,6,9,12,2,8,11,1,10,0] (xg 77 (.call 160 [false,false] [.t 74,.t 76]) 72 false) (.only 31 [25,30,18,27,16,26,7,13,6,9,12,2,8,11,1,10,0] (zv 78 77 72) (.take 32 (ya 79 0 9 78) (.take 33 (yl 80 1 79 78) (.take 34 (xg 81 (.iad 3 (.t 80) (xi 0)) 78 true) (.take 35 (ya 82 2 81 78) (.take 36 (yl 83 1 82 78) (.only 37 [31,25,30,18,27,16,26,7,13,6,9,12,2,8,11,1,10,0] (ya 84 0 11 78) (.only 38 [31,25,30,18,27,16,26,7,13,6,9,12,2,8,11,1,10,0] (yl 85 1 84 78) (.only 39 [31,25,30,18,27,16,26,7,13,6,9,12,2,8,11,1,10,0] (xg 86 (.iad 3 (.t 85) (xi 0)) 78 true) (.only 40 [31,25,30,18,27,16,26,7,13,6,9,12,2,8,11,1,10,0] (ya 87 2 86 78) (.only 41 [31,25,30,18,27,16,26,7,13,6,9,12,2,8,11,1,10,0] (yl 88 1 87 78) (.only 42 [31,36,25,30,35,18,27,34,16,26,33,7,13,32,6,9,12,2,8,11,1,10,0] (xg 89 (.bin .eql (.t 83) (.t 88)) 78 true) (.only 43 [25,31,42,18,30,36,16,27,35,7,13,26,34,6,9,12,33,2,8,11,32,1,10,0] (xg 90 (.pick (.t 78) (.t 89) (.c (.bool false))) 72 false) (.only 44 [18,43,16,31,42,7,13,30,36,6,9,12,27,35,2,8,11,26,34,1,10,33,0,32] (xg 91 (.pick (.t 72) (.c (.bool true)) (.t 90)) 65 true) (.only 45 [18,44,16,43,7,13,31,42,6,9,12,30,36,2,8,11,27,35,1,10,26,34,0,33,32] (xP 92 65 91) (.only 46 [0,1,2,8,9,10,11,12,13,26,27,32,33,34,35,36] (xv 2 92) (.done))))))))))))))))))))))))))))))))))))))))))))))))) (.ret))))))))))⟩
def m158:MFn:=⟨12,[.cell 2 2 true],kr [xo 2 (.alloc [.nil,.nil])] (kr [xv 4 0,xo 5 (.call 37 [true] [.t 4]),xo 6 (.call 55 [true] [.t 5]),xo 3 (.alloc [.nil,.nil]),xS 2 3 6] (kr [xa 7 1 3,xl 8 7,xo 9 (.cut 1 (.t 8) none (some (xi 1))),xa 10 1 3,xS 1 10 9] (kR [xm 11 2 3,xS 2 2 11])))⟩
def qGe (code:List Int):wJ:=⟨(zW code (qDi code)).1.caps,(zW code (qDi code)).1.bods.take 1⟩
theorem qK6 (code:List Int):jB (qGe code)=true∧(qGe code).bods.length=1:=by
 have h:=qF6 code (qDi code)
 have hs:=tZ code (qDi code)
 unfold qGe
 generalize (zW code (qDi code)).1=p at h hs
 obtain ⟨_,_,h1,_,_⟩:=hs
 have hl:(p.bods.take 1).length=1:=by rw [List.length_take]; omega
 refine ⟨?_,hl⟩
 unfold jB at h⊢
 simp only [Bool.and_eq_true,decide_eq_true_eq,qK,List.all_eq_true] at h⊢
 obtain ⟨⟨⟨a,b⟩,c⟩,d⟩:=h
 exact ⟨⟨⟨fun x hx=>a x (List.mem_of_mem_take hx),b⟩,c⟩,by omega⟩
theorem qKs (code:List Int) (hb:code.length<2^62):wM Try.prog num 158 [.sl .fz 1 (bys code)] [] (.agg (gQ .own (qGe code))):=by
 have hl:=(qK6 code).2
 have hs:=(tZ code (qDi code)).2.2.1
 refine EN m158 Try.func7 ?_
 unfold m158
 simp only [go_sem,seval]
 repeat refine K ?_
 refine nK (qOx (n1:=12) [(10,11)] (qSn code hb) ?_ ?_ ?_ ?_ ?_ ?_ ?_) ?_
 any_goals (first | omega | (simp [wF,wH]; done) | (simp [wF,wH, *]; done))
 try simp only [go_sem,seval]
 repeat refine K ?_
 refine CA [(0,11)] (qDp code (qDi code) hb) ?_
 try simp only [go_sem,seval]
 repeat refine K ?_
 unfold qGe at hl⊢
 generalize zW code (qDi code)=r at hl hs
 obtain ⟨p,d⟩:=r
 simp only at hl hs⊢
 have hn1:((1:Nat):Int)=1:=rfl
 try simp only [go_sem,seval,hn1]
 repeat refine K ?_
 refine ⟨_,Sub.refl _,jV ?_⟩; simp [-qYu]
 exact ⟨by omega,fun h=>by rw [List.take_of_length_le (by omega)]⟩
theorem qVf (code:List Int):wM Try.prog num 157 [.sl .fz 1 (bys code)] [] (.bool true):=by
 refine EN m157 Try.func3 ?_
 unfold m157
 simp only [go_sem,seval]
 repeat refine K ?_
 refine CA [] (qW3 code) ?_
 try simp only [go_sem,seval]
 repeat refine K ?_
 by_cases hbig:(1048576:Int)<code.length
 ·try simp only [go_sem,seval,hbig]
  repeat refine K ?_
  refine fz ?_; simp [jA,wF,wH,yE,-qYu]
 have hb:code.length<2^62:=by omega
 try simp only [go_sem,seval,hbig]
 repeat refine K ?_
 refine CA [] (qKs code hb) ?_
 try simp only [go_sem,seval]
 repeat refine K ?_
 obtain ⟨hp,h1⟩:=qK6 code
 generalize qGe code=p at hp h1
 have hpp:=qFx hp
 have hq:=qB6 hp
 have hqq:=qFx hq
 obtain ⟨l1,l2,l3⟩:=Beh.law hq (qS2 hp h1) 120
 have h1q:(uN p).bods.length=1:=by rw [aY hp]; simp [h1]
 have ep:=qGo hp h1 (n:=120) (by decide)
 have eq:=qGo hq h1q (n:=120) (by decide)
 have okp:=oD hp 120
 have okq:=oD hq 120
 have tp:=(qI0 okp).1
 have tq:=(qI0 okq).1
 have cpk:=qF7 p hpp
 generalize uN p=q at *
 have np:(wP p).2=true:=by simp [wP,hp]
 have nq:(wP q).2=true:=by simp [wP,hq]
 have okp0:=xK hp
 have okq0:=xK hq
 have csp:=iR p (by have:=hpp.caps; omega) (by have:=hpp.bods; omega) (fun b hb=>by have:=hpp.body b hb; omega)
 have csq:=iR q (by have:=hqq.caps; omega) (by have:=hqq.bods; omega) (fun b hb=>by have:=hqq.body b hb; omega)
 have cfp:=qBg p (wP p).1 120 hpp (lX okp0)
 have cfq:=qBg q (wP q).1 120 hqq (lX okq0)
 rw [np] at csp
 rw [nq] at csq
 have ep':(qE1 p (wP p).1 120).1=zO p 120:=ep
 have eq':(qE1 q (wP q).1 120).1=zO q 120:=eq
 rw [ep'] at cfp
 rw [eq'] at cfq
 have zp:=lX okp
 have zq:=lX okq
 generalize zO p 120=u at *
 generalize zO q 120=v at *
 generalize (qE1 p (wP p).1 120).2=mu at *
 generalize (qE1 q (wP q).1 120).2=mv at *
 generalize (wP p).1=s at *
 generalize (wP q).1=t at *
 have htu:u.tr.length<2^47:=by have:=zp.tr; omega
 have s1:=rT u.tr u.tr htu
 have s2:=rT u.tr v.tr htu
 have gu:(yB .own u.ths).getD 0 []=xH .own (thd u 0):=by
  rw [qO .own _ 0 (by omega)]
  rfl
 have gv:(yB .own v.ths).getD 0 []=xH .own (thd v 0):=by
  rw [qO .own _ 0 (by omega)]
  rfl
 try simp only [go_sem,seval]
 repeat refine K ?_
 refine CA [] (cpk) ?_
 try simp only [go_sem,seval]
 repeat refine K ?_
 try simp only [go_sem,seval]
 repeat refine K ?_
 refine CA [] (csp) ?_
 try simp only [go_sem,seval]
 repeat refine K ?_
 try simp only [go_sem,seval]
 repeat refine K ?_
 refine CA [] (csq) ?_
 try simp only [go_sem,seval]
 repeat refine K ?_
 try simp only [go_sem,seval]
 repeat refine K ?_
 refine CA [] (cfp) ?_
 try simp only [go_sem,seval]
 repeat refine K ?_
 try simp only [go_sem,seval]
 repeat refine K ?_
 refine CA [] (cfq) ?_
 try simp only [go_sem,seval]
 repeat refine K ?_
 have hle:((u.tr.length:Nat):Int)≤(v.tr.length:Nat):=by omega
 have gu2:=qO .own u.ths 0 (by omega)
 have gv2:=qO .own v.ths 0 (by omega)
 have tu0:0<u.ths.length:=by omega
 have tv0:0<v.ths.length:=by omega
 have tu1:(0:Int)<(u.ths.length:Nat):=by omega
 have tv1:(0:Int)<(v.ths.length:Nat):=by omega
 have eu:thd u 0=u.ths.getD 0 default:=rfl
 have ev:thd v 0=v.ths.getD 0 default:=rfl
 rw [eu,ev] at l3
 clear gu gv eu ev
 generalize u.ths.getD 0 default=U at *
 generalize v.ths.getD 0 default=V at *
 try simp only [go_sem,seval,hle,l1]
 repeat refine K ?_
 refine DA [] (s1) ?_
 try simp only [go_sem,seval]
 repeat refine K ?_
 try simp only [go_sem,seval,gu2,tu0,tu1]
 repeat refine K ?_
 by_cases hst:U.st=0
 ·try simp only [go_sem,seval,hst]
  repeat refine K ?_
  refine fz ?_; simp [jA,wF,wH,yE,-qYu]
 ·obtain ⟨e1,e2⟩:=l3.resolve_left hst
  try simp only [go_sem,seval,hst]
  repeat refine K ?_
  refine DA [] (s2) ?_
  try simp only [go_sem,seval]
  repeat refine K ?_
  try simp only [go_sem,seval,e1,e2,gu2,gv2,tu0,tv0,tu1,tv1]
  repeat refine K ?_
  refine fz ?_; simp [jA,wF,wH,yE,-qYu]
end Go.Sep
