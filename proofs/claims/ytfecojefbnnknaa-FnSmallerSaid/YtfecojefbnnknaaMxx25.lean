/- Contracts of functions. -/
import Derived.Test.YtfecojefbnnknaaMxx14
import Derived.Test.YtfecojefbnnknaaMxx24
open List renaming drop_one → wEc, take_of_length_le → wD1
namespace Go.Sep
set_option maxHeartbeats 16000000
open Go.Proofs
set_option linter.unusedSimpArgs false
set_option linter.unusedVariables false
set_option maxRecDepth 100000
def m159:MFn:=⟨5,[.cell 2 2 true],kr [xb 1 0,xo 2 (.alloc [.nil,.nil])] (.seq (xr [xm 3 2 1,xo 4 (.call 200 [false,false] [.t 3,.c (.fn 201 [])]),xS 2 2 4]) (.ret))⟩
def m201:MFn:=⟨99,[.t 2],kr [xo 2 (.mv (.c (.nil)))] (.seq (kr [xv 13 0,xc2 14 67 (.t 13) (xi 3),xN 15 14] (kF 15 [xv 16 0,xc1 17 248 (.t 16),xv 2 17])) (kr [xv 18 0,xc1 19 248 (.t 18),xv 3 19] (.seq (kr [xv 20 0,xe 21 20,xI 22 0] (.blk 0 (.loop (kr [bT 23 .lss 22 21] (.seq (kX 23 0) (.seq (.blk 1 (kr [xv 24 22,xD 25 5 20 22,xm 26 5 25,xo 5 (.alloc [xz,xz,xz,xz,xz]),xv 4 24,xS 5 5 26] (kr [xa 27 0 5,xl 28 27,bI 29 .eql 28 11,xv 30 29,za 31 0 5 30,zl 32 1 31 30,zI 33 .eql 32 12 30,xQ 34 30 33] (.cond 34 (xr [xv 35 3,xv 36 4,xv 37 0,xa 38 4 5,xl 39 38,xc2 40 249 (.t 37) (.t 39),xD 41 5 35 36,xa 42 4 41,xS 1 42 40]) (.skip))))) (xr [bI 43 .add 22 1,xv 22 43]))))))) (kr [xv 44 3,xo 45 (.mkSl [xz] 1 [(0,xi 0)]),xc2 46 250 (.t 44) (.t 45),xv 6 46] (kr [xv 47 0,xe 48 47,xo 49 (.mkS [xz] 8 (.t 48) (.t 48)),xv 7 49] (kr [xI 8 0] (.seq (kr [xv 50 0,xe 51 50,xI 52 0] (.blk 2 (.loop (kr [bT 53 .lss 52 51] (.seq (kX 53 2) (.seq (.blk 3 (kr [xv 54 52,xv 9 54] (kr [xv 55 7,xv 56 9,xv 57 8,xD 58 1 55 56,xS 1 58 57] (kr [xv 59 6,xv 60 9,xD 61 1 59 60,xl 62 61] (.cond 62 (xr [xv 63 8,bI 64 .add 63 1,xv 8 64]) (.skip)))))) (xr [bI 65 .add 52 1,xv 52 65]))))))) (kr [xo 66 (.mkSl [xz,xz,xz,xz,xz] 0 []),xv 10 66] (.seq (kr [xv 67 3,xe 68 67,xI 69 0] (.blk 4 (.loop (kr [bT 70 .lss 69 68] (.seq (kX 70 4) (.seq (.blk 5 (kr [xv 71 69,xD 72 5 67 69,xm 73 5 72,xo 12 (.alloc [xz,xz,xz,xz,xz]),xv 11 71,xS 5 12 73] (.seq (kr [xv 74 6,xv 75 11,xD 76 1 74 75,xl 77 76,xN 78 77] (.cond 78 (.exit 5) (.skip))) (.seq (kr [xa 79 0 12,xl 80 79,bI 81 .eql 80 11,xv 82 81,za 83 0 12 82,zl 84 1 83 82,zI 85 .eql 84 12 82,xQ 86 82 85] (.cond 86 (xr [xv 87 7,xa 88 4 12,xl 89 88,xD 90 1 87 89,xl 91 90,xa 92 4 12,xS 1 92 91]) (.skip))) (xr [xv 93 10,xm 94 5 12,xo 95 (.mkSl [xz,xz,xz,xz,xz] 1 [(0,.t 94)]),xA 96 5 40 93 95,xv 10 96]))))) (xr [bI 97 .add 69 1,xv 69 97]))))))) (kR [xv 98 10,xv 2 98]))))))))))⟩
def skN (l:List Ins):Nat→List Ins
 | 0=>l
 | i+1=>(skN l i).set i (skp l (l.getD i default))
theorem iA (l:List Ins) :∀i,(skN l i).length=l.length
 | 0=>rfl
 | i+1=>by rw [skN,List.length_set,iA l i]
theorem qL5 (l:List Ins) :∀(n i:Nat),n≤l.length→i<l.length→(skN l n).getD i default=if i<n then skp l (l.getD i default) else l.getD i default
 | 0,i,_,_=>by simp [skN]
 | n+1,i,hn,hi=>by
  rw [skN,yU _ _ _ _ _ (by rw [iA]; omega),qL5 l n i (by omega) hi]
  by_cases e:i=n
  ·subst e
   rw [if_pos rfl,if_pos (by omega)]
  ·rw [if_neg e]
   by_cases h2:i<n
   ·rw [if_pos h2,if_pos (by omega)]
   ·rw [if_neg h2,if_neg (by omega)]
theorem qGx {α:Type} (d:α) {l k:List α} (h:l.length=k.length) (e :∀i,i<l.length→l.getD i d=k.getD i d):l=k:=by
 refine List.ext_getElem h fun i h1 h2=>?_
 have:=e i h1
 simpa [List.getD_eq_getElem?_getD,h1,h2] using this
theorem qZb (l:List Ins):skN l l.length=skL l:=by
 refine qGx default (by rw [iA,gI]) fun i hi=>?_
 rw [iA] at hi
 rw [qL5 l _ i (Nat.le_refl _) hi,if_pos hi,sT l hi]
def plL (R:List Bool) (n:Nat):Nat→List Int
 | 0=>List.replicate n 0
 | i+1=>(plL R n i).set i (plN R i)
theorem mW (R:List Bool) (n:Nat) :∀i,(plL R n i).length=n
 | 0=>by simp [plL]
 | i+1=>by rw [plL,List.length_set,mW R n i]
theorem qWm (R:List Bool) (n:Nat) :∀(k i:Nat),k≤n→i<k→(plL R n k).getD i 0=plN R i
 | 0,i,_,hi=>by omega
 | k+1,i,hk,hi=>by
  rw [plL,yU _ _ _ _ _ (by rw [mW]; omega)]
  by_cases e:i=k
  ·subst e
   rw [if_pos rfl]
  ·rw [if_neg e]
   exact qWm R n k i (by omega) (by omega)
theorem qNb (l:List Ins) (hl:40*l.length≤2^47):wD Try.prog num 201 [.sl .bw 5 (yX l)] [] (.sl .own 5 (yX (aQ l))):=by
 refine EN m201 Try.func64 ?_
 unfold m201
 simp only [go_sem,seval]
 repeat refine K ?_
 refine CA [] (zO l 3 (by omega) (by omega) (by omega)) ?_
 try simp only [go_sem,seval]
 repeat refine K ?_
 cases hb:wB l 3
 ·have hf:aQ l=l:=by simp [aQ,hb]
  rw [hf]
  try simp only [go_sem,seval,hb]
  repeat refine K ?_
  refine CA [] (cU l hl) ?_
  try simp only [go_sem,seval]
  repeat refine K ?_
  try simp only [go_sem,seval]
  repeat refine K ?_
  refine ⟨_,Sub.refl _,wG ?_⟩; simp [-wEc]
 obtain ⟨hl1,hl2⟩:=cX hb
 have hs3:=qFf hb
 have hrc:=(zW hs3).1
 rw [gI] at hrc
 have hrk:=qFn (skL l) hs3
 have hpk:aQ l=pkN (skL l) (dT (skL l)) l.length:=by unfold aQ; rw [if_pos hb]
 rw [hpk]
 try simp only [go_sem,seval,hb]
 repeat refine K ?_
 refine CA [] (cU l hl) ?_
 try simp only [go_sem,seval]
 repeat refine K ?_
 try simp only [go_sem,seval]
 repeat refine K ?_
 refine wJ (ι:=Nat) (fun i=>.mk [(0,.sl .bw 5 (yX l)),(3,.ns 10 0 l.length),(20,.sl .bw 5 (yX l)),(21,.int .i64 l.length),(22,.int .i64 i)] [(10,5,yX (skN l i))] 11) (fun i=>i≤l.length) (fun i=>l.length-i) 0 (by simp) ?_ ?_
 ·refine Sub.shape [] id (by omega) ?_ ?_ ?_ ?_<;>simp [qL]
  all_goals (exact .inl rfl)
 ·intro i hi
  simp only [go_sem,seval]
  refine qX (fun hc=>?_) (fun hc=>?_)
  ·simp only [decide_eq_true_eq] at hc
   have hi':i<l.length:=by omega
   have hg:=uS l i hi'
   have hlf:=iA l i
   have hgf:=uS (skN l i) i (by omega)
   rw [qL5 l i i hi hi',if_neg (by omega)] at hgf
   have hst:skN l (i+1)=(skN l i).set i (skp l (l.getD i default)):=rfl
   have hself:(skN l i).set i (l.getD i default)=skN l i:=by
    have:=qBx (skN l i) i default (by omega)
    rwa [qL5 l i i hi hi',if_neg (by omega)] at this
   have hsk:=qO5 l (l.getD i default).n (by omega)
   generalize l.getD i default=x at hg hgf hst hself hsk
   simp only [go_sem,seval,hg]
   repeat refine K ?_
   by_cases hj:x.op=11∨x.op=12
   ·have he:skp l x=⟨x.op,x.r,x.a,x.b,eR l x.n⟩:=by unfold skp; rw [if_pos hj]
    rw [he] at hst
    rcases hj with hj | hj
    all_goals
     try simp only [go_sem,seval,hj]
     repeat refine K ?_
     refine CA [] (hsk) ?_
     try simp only [go_sem,seval]
     repeat refine K ?_
     have hig:=qCk (skN l i) i ⟨x.op,x.r,x.a,x.b,eR l x.n⟩
     simp only at hig
     rw [hj] at hig hst
     try simp only [go_sem,seval,hgf,hlf,hj,hig,qV (i:=i) (by omega)]
     repeat refine K ?_
     refine qT (i+1) ?_ hi' (by omega)
     rw [hst]
     refine Sub.shape [] id (by omega) ?_ ?_ ?_ ?_<;>simp [qL]
   ·have he:skp l x=x:=by unfold skp; rw [if_neg hj]
    rw [he,hself] at hst
    have d1:decide (x.op=11)=false:=by simp; omega
    have d2:decide (x.op=12)=false:=by simp; omega
    try simp only [go_sem,seval,d1,d2,qV (i:=i) (by omega)]
    repeat refine K ?_
    refine qT (i+1) ?_ hi' (by omega)
    rw [hst]
    refine Sub.shape [] id (by omega) ?_ ?_ ?_ ?_<;>simp [qL]
  ·simp only [decide_eq_false_iff_not] at hc
   have he:i=l.length:=by omega
   subst he
   have hsl:=gI l
   rw [qZb]
   have htk:List.take l.length (skL l)=skL l:=wD1 (by omega)
   have hbw:bwR [[AV.int .i64 0]]=wR [0]:=rfl
   simp only [go_sem,seval]
   repeat refine K ?_
   refine CA [] (hrk) ?_
   try simp only [go_sem,seval]
   repeat refine K ?_
   have hat :∀i,i<l.length→(skL l).getD i default=skp l (l.getD i default):=fun i hi=>sT l hi
   have hjm :∀i,i<l.length→((skL l).getD i default).op=11∨((skL l).getD i default).op=12→0≤((skL l).getD i default).n∧((skL l).getD i default).n.toNat<l.length:=by
    intro i hi hj
    have hb2:=hs3
    unfold wB at hb2
    simp only [Bool.and_eq_true,List.all_eq_true] at hb2
    have hx:=hb2.1.2 _ (yL (skL l) i default (by omega))
    rw [gI] at hx
    have:=mD hx hj
    omega
   generalize skL l=L at hsl hjm hrc
   generalize dT L=R at hrc
   try simp only [go_sem,seval,hrc]
   repeat refine K ?_
   refine wJ (ι:=Nat) (fun i=>.mk [(3,.ns 10 0 l.length),(6,.ns 12 0 l.length),(7,.ns 13 0 l.length),(8,.int .i64 (plN R i)),(51,.int .i64 l.length),(52,.int .i64 i)] [(10,5,yX L),(12,1,vH R),(13,1,wR (plL R l.length i))] 14) (fun i=>i≤l.length) (fun i=>l.length-i) 0 (by simp) ?_ ?_
   ·refine Sub.shape [] id (by omega) ?_ ?_ ?_ ?_<;>simp [qL]
    all_goals (first | rfl | exact .inl rfl)
   ·intro i hi
    simp only [go_sem,seval]
    refine qX (fun hc=>?_) (fun hc=>?_)
    ·simp only [decide_eq_true_eq] at hc
     have hi':i<l.length:=by omega
     have hgr:=kP R i (by omega)
     have hlp:=mW R l.length i
     have hg2:=qJ (plL R l.length i) i (by omega)
     have hst:plL R l.length (i+1)=(plL R l.length i).set i (plN R i):=rfl
     have hle:=qFw R i
     have hps:plN R (i+1)=plN R i+(if R.getD i false then 1 else 0):=rfl
     cases hr:R.getD i false
     ·rw [hr] at hgr
      rw [hr] at hps
      have hps':plN R (i+1)=plN R i:=hps
      simp only [go_sem,seval,hgr,hg2,hlp,hrc,←hst,qV (i:=i) (by omega)]
      repeat refine K ?_
      refine qT (i+1) ?_ hi' (by omega)
      rw [hps']
      refine Sub.shape [] id (by omega) ?_ ?_ ?_ ?_<;>simp [qL]
     ·rw [hr] at hgr
      rw [hr] at hps
      have hps':plN R (i+1)=plN R i+1:=hps
      simp only [go_sem,seval,hgr,hg2,hlp,hrc,←hst,qV (i:=i) (by omega),qV (i:=plN R i) (by omega)]
      repeat refine K ?_
      refine qT (i+1) ?_ hi' (by omega)
      rw [hps']
      refine Sub.shape [] id (by omega) ?_ ?_ ?_ ?_<;>simp [qL]
    ·simp only [decide_eq_false_iff_not] at hc
     have he:i=l.length:=by omega
     subst he
     have hlp:=mW R l.length l.length
     have hpa:=qWm R l.length l.length
     simp only [go_sem,seval]
     repeat refine K ?_
     refine wJ (ι:=Nat) (fun i=>.mk [(6,.ns 12 0 l.length),(7,.ns 13 0 l.length),(10,.ns 14 0 (plN R i)),(67,.ns 10 0 l.length),(68,.int .i64 l.length),(69,.int .i64 i)] [(10,5,yX L),(12,1,vH R),(13,1,wR (plL R l.length l.length)),(14,5,yX (pkN L R i))] 15) (fun i=>i≤l.length) (fun i=>l.length-i) 0 (by simp) ?_ ?_
     ·refine Sub.shape [] id (by omega) ?_ ?_ ?_ ?_<;>simp [qL]
      all_goals (first | rfl | exact .inl rfl)
     ·intro i hi
      simp only [go_sem,seval]
      refine qX (fun hc=>?_) (fun hc=>?_)
      ·simp only [decide_eq_true_eq] at hc
       have hi':i<l.length:=by omega
       have hgr:=kP R i (by omega)
       have hg:=uS L i (by omega)
       have hpl:(pkN L R i).length=plN R i:=zD L R i
       have hle:=qFw R i
       have hps:plN R (i+1)=plN R i+(if R.getD i false then 1 else 0):=rfl
       have hst:pkN L R (i+1)=pkN L R i++(if R.getD i false then [oA R (L.getD i default)] else []):=rfl
       have hj0:=hjm i hi'
       generalize L.getD i default=x at hg hst hj0
       cases hr:R.getD i false
       ·rw [hr] at hgr hst
        have hst':pkN L R (i+1)=pkN L R i:=by rw [hst]; simp
        rw [hr] at hps
        have hps':plN R (i+1)=plN R i:=hps
        simp only [go_sem,seval,hgr,hg,hrc,hsl,qV (i:=i) (by omega)]
        repeat refine K ?_
        refine qT (i+1) ?_ hi' (by omega)
        rw [hst',hps']
        refine Sub.shape [] id (by omega) ?_ ?_ ?_ ?_<;>simp [qL]
       ·rw [hr] at hgr hst hps
        have hps':plN R (i+1)=plN R i+1:=hps
        have hst':pkN L R (i+1)=pkN L R i++[oA R x]:=by rw [hst]; simp
        simp only [go_sem,seval,hgr,hg,hrc,hsl]
        repeat refine K ?_
        by_cases hj:x.op=11∨x.op=12
        ·have he:oA R x=⟨x.op,x.r,x.a,x.b,plN R x.n.toNat⟩:=by unfold oA; rw [if_pos hj]
         rw [he] at hst'
         obtain ⟨j0,j1⟩:=hj0 hj
         obtain ⟨m,hm⟩ :∃m:Nat,x.n=(m:Int):=⟨x.n.toNat,by omega⟩
         rw [hm,Int.toNat_natCast] at j1
         rw [hm,Int.toNat_natCast] at hst'
         have hgp:(wR (plL R l.length l.length)).getD m []=[.int .i64 (plN R m)]:=by
          rw [qJ _ _ (by omega),hpa m (Nat.le_refl _) j1]
         rcases hj with hj | hj
         all_goals
          rw [hj] at hst'
          try simp only [go_sem,seval,hj,hm,hgp,hlp,qV (i:=i) (by omega)]
          repeat refine K ?_
          refine qT (i+1) ?_ hi' (by omega)
          rw [hst',hps']
          refine Sub.shape [] (fun n=>if n=14 then 17 else n) (by omega) ?_ ?_ ?_ ?_<;>simp [qL]
          exact .inl (by simp [yX,dL])
        ·have he:oA R x=x:=by unfold oA; rw [if_neg hj]
         rw [he] at hst'
         have d1:decide (x.op=11)=false:=by simp; omega
         have d2:decide (x.op=12)=false:=by simp; omega
         try simp only [go_sem,seval,d1,d2,qV (i:=i) (by omega)]
         repeat refine K ?_
         refine qT (i+1) ?_ hi' (by omega)
         rw [hst',hps']
         refine Sub.shape [] (fun n=>if n=14 then 17 else n) (by omega) ?_ ?_ ?_ ?_<;>simp [qL]
         exact .inl (by simp [yX,dL])
      ·simp only [decide_eq_false_iff_not] at hc
       have he:i=l.length:=by omega
       subst he
       have hpl:=zD L R l.length
       simp only [go_sem,seval]
       repeat refine K ?_
       refine ⟨_,Sub.refl _,wG ?_⟩; simp [-wEc]
       exact ⟨by omega,fun h=>absurd hpl h⟩
theorem qI6 (p:wK) (hp:eZ p):wD Try.prog num 159 [.agg (bH .bw p)] [] (.agg (bH .own (bB p))):=by
 have eb:=pR p hp 201 aQ (fun b hb=>qNb b (by have:=hp.body b hb; omega))
 have he:qDr aQ p=bB p:=rfl
 rw [he] at eb
 refine EN m159 Try.func40 ?_
 unfold m159
 simp only [go_sem,seval]
 repeat refine K ?_
 refine CA [] (eb) ?_
 try simp only [go_sem,seval]
 repeat refine K ?_
 try simp only [go_sem,seval]
 repeat refine K ?_
 refine ⟨_,Sub.refl _,wG ?_⟩; simp [-wEc]
def m160:MFn:=⟨26,[.t 4],kr [xF 4] (.seq (kr [xv 6 0,xe 7 6,xv 8 1,xe 9 8,bT 10 .neq 7 9] (kF 10 [xF 4])) (.seq (kr [xI 5 0] (.blk 0 (.loop (.seq (kr [xv 11 5,xv 12 0,xe 13 12,bT 14 .lss 11 13] (kX 14 0)) (.seq (.blk 1 (.seq (.dreg (.take 0 (xv 17 0) (.take 1 (xv 18 5) (.take 2 (xD 19 2 17 18) (.take 3 (xm 20 2 19) (.take 4 (xv 21 1) (.only 5 [] (xv 22 5) (.only 6 [4] (xD 23 2 21 22) (.only 7 [6,4] (xm 24 2 23) (.only 8 [3,7,2,6,0,1,4] (xo 25 (.eqS true [true,true] (.t 20) (.t 24))) (.done))))))))))) (kF 25 [xF 4]))) (xr [xv 15 5,bI 16 .add 15 1,xv 5 16])))))) (kR [xT 4])))⟩
theorem qTy {a b:List bM} (i:Nat) (ha:i<a.length) (hb:i<b.length) (h:a.take i=b.take i) (he:a.getD i default=b.getD i default):a.take (i+1)=b.take (i+1):=by
 rw [bG a default i ha,bG b default i hb,h,he]
theorem qAb (a b:List bM) (ha:a.length<2^47):wD Try.prog num 160 [.sl .bw 2 (jC a),.sl .bw 2 (jC b)] [] (.bool (decide (a=b))):=by
 refine EN m160 Try.func15 ?_
 unfold m160
 by_cases hl:a.length=b.length
 ·have d0:(!decide ((a.length:Int)=(b.length:Int)))=false:=by simp [hl]
  simp only [go_sem,seval,d0]
  refine wJ (ι:=Nat) (fun i=>.mk [(0,.sl .bw 2 (jC a)),(1,.sl .bw 2 (jC b)),(5,.int .i64 i)] [] 10) (fun i=>i≤a.length∧a.take i=b.take i) (fun i=>a.length-i) 0 (by simp) ?_ ?_
  ·refine Sub.shape [] id (by omega) ?_ ?_ ?_ ?_<;>simp [qL]
  ·rintro i ⟨hi,hp⟩
   simp only [go_sem,seval]
   refine qX (fun hc=>?_) (fun hc=>?_)
   ·simp only [decide_eq_true_eq] at hc
    have hil:i<a.length:=by omega
    have g1:=sZ a i hil
    have g2:=sZ b i (by omega)
    have ht:=qTy i hil (by omega) hp
    have hdec:(decide ((a.getD i default).who=(b.getD i default).who)&&decide ((a.getD i default).v=(b.getD i default).v))=decide (a.getD i default=b.getD i default):=by
     generalize a.getD i default=x
     generalize b.getD i default=y
     obtain ⟨x1,x2⟩:=x
     obtain ⟨y1,y2⟩:=y
     by_cases h1:x1=y1<;>by_cases h2:x2=y2<;>simp [h1,h2]
    simp only [go_sem,seval,g1,g2,hdec,qV (i:=i) (by omega)]
    repeat refine K ?_
    by_cases he:a.getD i default=b.getD i default
    ·have h2:=ht he
     have d3:(!decide (a.getD i default=b.getD i default))=false:=by rw [decide_eq_true he]; rfl
     try simp only [go_sem,seval,d3,qV (i:=i) (by omega)]
     refine qT (i+1) (Sub.shape [] id (by omega) ?_ ?_ ?_ ?_) ⟨hil,h2⟩ (by omega)<;>simp [qL]
    ·have hne :¬a=b:=fun e=>he (by rw [e])
     have d3:(!decide (a.getD i default=b.getD i default))=true:=by rw [decide_eq_false he]; rfl
     try simp only [go_sem,seval,d3]
     refine fz ?_; simp [yS,wL,wM,wV,-wEc]
     all_goals simp [hne]
   ·simp only [decide_eq_false_iff_not] at hc
    have hab:a=b:=by
     have h1:a.take i=a:=wD1 (by omega)
     have h2:b.take i=b:=wD1 (by omega)
     rw [←h1,hp,h2]
    simp only [go_sem,seval]
    refine fz ?_; simp [yS,wL,wM,wV,-wEc]
    all_goals simp [hab]
 ·have d0:(!decide ((a.length:Int)=(b.length:Int)))=true:=by simp; omega
  have hne :¬a=b:=fun e=>hl (by rw [e])
  simp only [go_sem,seval,d0]
  refine fz ?_; simp [yS,wL,wM,wV,-wEc]
  all_goals simp [hne]
end Go.Sep
