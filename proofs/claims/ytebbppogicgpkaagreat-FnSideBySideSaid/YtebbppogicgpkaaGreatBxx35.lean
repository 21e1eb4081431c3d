/- Contracts of functions. -/
import Derived.Test.YtebbppogicgpkaaGreatBxx34
namespace Go.Sep
set_option maxHeartbeats 16000000
open Go.Proofs
set_option linter.unusedSimpArgs false
set_option linter.unusedVariables false
set_option maxRecDepth 100000
open Nat renaming reduceAdd → qA, reduceMul → qB, reduceEqDiff → qC, reduceBEq → qD
open Int renaming reduceToNat → qE, reduceEq → qF, reduceLT → qG, reduceLE → qH
open List renaming getD_eq_getElem?_getD → gD
def m456:MFn:=⟨18,[.cell 2 2 true,.cell 3 4 true,.cell 4 3 true],kr [xo 2 (.alloc [.nil,.nil]),xo 3 (.alloc [.nil,.nil,.nil,.nil]),xo 4 (.alloc [.nil,.nil,.nil])] (kr [xv 9 0,xo 10 (.call 37 [true] [.t 9]),xo 11 (.call 470 [true] [.t 10]),xv 8 11,xX 12 8 0,xX 13 8 1,xX 14 8 2,xo 5 (.alloc [.nil,.nil]),xo 6 (.alloc [.nil,.nil,.nil,.nil]),xo 7 (.alloc [.nil,.nil,.nil]),xS 2 5 12,xS 4 6 13,xS 3 7 14] (.seq (.dreg (.take 0 (xm 15 2 5) (.take 1 (xm 16 4 6) (.take 2 (xm 17 3 7) (.only 3 [0] (xS 2 2 15) (.only 4 [0,1] (xS 4 3 16) (.only 5 [0,1,2] (xS 3 4 17) (.done)))))))) (.ret)))⟩
def m457:MFn:=⟨27,[.cell 2 2 true,.cell 3 4 true,.cell 4 3 true,.t 5],kr [xo 2 (.alloc [.nil,.nil]),xo 3 (.alloc [.nil,.nil,.nil,.nil]),xo 4 (.alloc [.nil,.nil,.nil]),xI 5 0] (kr [xv 10 0,xo 11 (.call 37 [true] [.t 10]),xv 6 11] (kr [xv 13 6,xo 14 (.call 470 [true] [.t 13]),xv 12 14,xX 15 12 0,xX 16 12 1,xX 17 12 2,xo 7 (.alloc [.nil,.nil]),xo 8 (.alloc [.nil,.nil,.nil,.nil]),xo 9 (.alloc [.nil,.nil,.nil]),xS 2 7 15,xS 4 8 16,xS 3 9 17] (.seq (.dreg (.take 0 (xm 18 2 7) (.take 1 (xm 19 4 8) (.take 2 (xm 20 3 9) (.take 3 (xv 21 6) (.take 5 (xv 23 6) (.only 4 [3] (xo 22 (.call 39 [true,false] [.t 21,xi 4])) (.only 6 [4,5,3] (xo 24 (.call 39 [true,false] [.t 23,xi 20])) (.take 7 (bI 25 .quo 24 19) (.take 8 (bT 26 .sub 22 25) (.only 9 [0,6,4,5,3] (xS 2 2 18) (.only 10 [0,1,9,6,4,5,3] (xS 4 3 19) (.only 11 [0,1,2,9,6,4,5,3] (xS 3 4 20) (.only 12 [0,1,2,3,5,7,8] (xv 5 26) (.done))))))))))))))) (.ret))))⟩
def m470:MFn:=⟨99,[.cell 2 2 true,.cell 3 4 true,.cell 4 3 true],kr [xo 2 (.alloc [.nil,.nil]),xo 3 (.alloc [.nil,.nil,.nil,.nil]),xo 4 (.alloc [.nil,.nil,.nil])] (kr [xv 11 0,xo 12 (.call 55 [true] [.t 11]),xo 5 (.alloc [.nil,.nil]),xS 2 5 12] (.seq (.dreg (.take 0 (xm 14 2 5) (.take 1 (xv 15 0) (.take 2 (xa 16 1 5) (.take 3 (xl 17 16) (.take 4 (xe 18 17) (.both 5 [1,4,3,2] (xo 19 (.call 463 [true,false,false] [.t 15,.t 18,xi 30])) (.both 6 [0,5,1,4,3,2] (xc2 20 406 (.t 14) (.t 19)) (.take 7 (xv 13 20) (.take 8 (xX 21 13 0) (.take 9 (xX 22 13 1) (.take 10 (xX 23 13 2) (.only 11 [] (xo 7 (.alloc [.nil,.nil,.nil,.nil])) (.only 12 [0,1,2,3,4,7,8] (xv 6 21) (.only 13 [0,1,2,3,4,7,8,9] (xS 4 7 22) (.only 14 [0,1,2,3,4,7,8,9,10] (xv 8 23) (.done))))))))) 11 [] (xo 7 (.alloc [.nil,.nil,.nil,.nil])) (.only 6 [0,5,1,4,3,2] (xc2 20 406 (.t 14) (.t 19)) (.only 7 [6,0,5,1,4,3,2] (xv 13 20) (.take 8 (xX 21 13 0) (.take 9 (xX 22 13 1) (.take 10 (xX 23 13 2) (.only 12 [0,1,2,3,4,8] (xv 6 21) (.only 13 [0,1,2,3,4,8,9] (xS 4 7 22) (.only 14 [0,1,2,3,4,8,9,10] (xv 8 23) (.done)))))))))) 11 [] (xo 7 (.alloc [.nil,.nil,.nil,.nil])) (.only 5 [1,4,3,2] (xo 19 (.call 463 [true,false,false] [.t 15,.t 18,xi 30])) (.only 6 [0,5,1,4,3,2] (xc2 20 406 (.t 14) (.t 19)) (.only 7 [6,0,5,1,4,3,2] (xv 13 20) (.take 8 (xX 21 13 0) (.take 9 (xX 22 13 1) (.take 10 (xX 23 13 2) (.only 12 [0,1,2,3,4,8] (xv 6 21) (.only 13 [0,1,2,3,4,8,9] (xS 4 7 22) (.only 14 [0,1,2,3,4,8,9,10] (xv 8 23) (.done))))))))))))))))) (kr [xm 25 2 5,xc1 26 45 (.t 25),xv 24 26,xX 27 24 0,xX 28 24 1,xo 9 (.alloc [.nil,.nil,.nil]),xS 3 9 27,xv 10 28] (kr [xm 30 2 5,xm 31 3 9,xv 32 6,xc3 33 145 (.t 30) (.t 31) (.t 32),xv 29 33,xX 34 29 0,xX 35 29 1,xS 3 9 34] (.seq (kr [xv 36 8,xN 37 36] (.cond 37 (.seq (.dreg (.take 0 (xm 38 2 5) (.take 1 (xm 39 4 7) (.take 2 (xm 40 3 9) (.only 3 [0] (xS 2 2 38) (.only 4 [0,1] (xS 4 3 39) (.only 5 [0,1,2] (xS 3 4 40) (.done)))))))) (.ret)) (.skip))) (.seq (kr [xv 41 0,xo 42 (.call 39 [true,false] [.t 41,xi 12])] (.blk 0 (kr [bI 44 .eql 42 0,xv 43 44] (.cond 43 (.dreg (.take 0 (xa 45 0 9) (.take 1 (xl 46 45) (.take 2 (xo 47 (.iad 3 (.t 46) (xi 0))) (.take 3 (xa 48 1 47) (.take 4 (xl 49 48) (.only 5 [] (xa 50 0 9) (.only 6 [] (xl 51 50) (.only 7 [] (xo 52 (.iad 3 (.t 51) (xi 0))) (.only 8 [] (xa 53 1 52) (.only 9 [] (xl 54 53) (.only 10 [] (xo 55 (.iad 1 (.t 54) (xi 1))) (.only 11 [] (xl 56 55) (.only 12 [] (bI 57 .add 56 1) (.only 13 [0,1,2,3,4] (xo 58 (.iad 1 (.t 49) (xi 1))) (.only 14 [0,1,2,3,4] (xS 1 58 57) (.done))))))))))))))))) (kr [bI 60 .eql 42 1,xv 59 60] (.cond 59 (xr [xa 61 2 9,xl 62 61,xo 63 (.build [xz,xz] [(1,1,xi 3)]),xo 64 (.mkSl [xz,xz] 1 [(0,.t 63)]),xA 65 2 16 62 64,xa 66 2 9,xS 1 66 65]) (kr [bI 68 .eql 42 2,xv 67 68] (.cond 67 (.dreg (.take 0 (xa 69 1 9) (.take 1 (xl 70 69) (.take 2 (xa 71 1 9) (.take 3 (xl 72 71) (.take 4 (xo 73 (.iad 3 (.t 72) (xi 0))) (.take 5 (xa 74 1 73) (.take 6 (xl 75 74) (.only 7 [] (xo 76 (.mkSl [xz] 1 [(0,xi 5)])) (.only 8 [6,5,4,3,2] (xA 77 1 8 75 76) (.only 9 [0,1,2,3,4,5,6] (xo 78 (.iad 3 (.t 70) (xi 0))) (.only 10 [0,1,2,3,4,5,6] (xa 79 1 78) (.only 11 [0,1,2,3,4,5,6] (xS 1 79 77) (.done)))))))))))))) (kr [bI 81 .eql 42 3,xv 80 81] (.cond 80 (.dreg (.take 0 (xa 82 0 9) (.take 1 (xl 83 82) (.only 2 [] (xv 84 0) (.only 3 [] (xo 85 (.call 39 [true,false] [.t 84,xi 3])) (.only 4 [0,1] (xo 86 (.iad 3 (.t 83) (xi 0))) (.only 5 [0,1] (xa 87 2 86) (.only 6 [0,1] (xS 1 87 85) (.done))))))))) (kr [bI 89 .eql 42 4,xv 88 89] (.cond 88 (xr [xa 90 1 7,xl 91 90,xo 92 (.iad 4 (.t 91) (xi 0)),xa 93 1 92,xl 94 93,xo 95 (.iad 1 (.t 94) (xi 2)),⟨none,.store 1 (.t 95) (xi 77),none⟩]) (.skip))))))))))))) (.seq (.dreg (.take 0 (xm 96 2 5) (.take 1 (xm 97 4 7) (.take 2 (xm 98 3 9) (.only 3 [0] (xS 2 2 96) (.only 4 [0,1] (xS 4 3 97) (.only 5 [0,1,2] (xS 3 4 98) (.done)))))))) (.ret))))))))⟩
def qB2 (code:List Int) (k:Int) (c:Cur) (m:qO) (s:wC):(qO×wC)×Cur :=
 if k=0 then ((m,{s with ths:=s.ths.set 0 {s.ths.getD 0 default with regs:=(s.ths.getD 0 default).regs.set 1 (IntKind.i64.wrap ((s.ths.getD 0 default).regs.getD 1 0+1))}}),c)
 else if k=1 then ((m,{s with tr:=s.tr++[⟨0,3⟩]}),c)
 else if k=2 then ((m,{s with chs:=s.chs.set 0 {s.chs.getD 0 default with list:=(s.chs.getD 0 default).list++[5]}}),c)
 else if k=3 then ((m,{s with ths:=s.ths.set 0 {s.ths.getD 0 default with st:=(qV code c 3).1}}),(qV code c 3).2)
 else if k=4 then ((vT m 0 {qJ m 0 with regs:=(qJ m 0).regs.set 2 77},s),c)
 else ((m,s),c)
def qBk (code:List Int) (p:wR) (q:List dK×Cur):(qO×wC)×Cur :=
 if (uI p q.1).2.2 then qB2 code (qV code q.2 12).1 (qV code q.2 12).2 (uI p q.1).2.1 (xB p (jC p).1 (uI p q.1).1).1
 else (((uI p q.1).2.1,(xB p (jC p).1 (uI p q.1).1).1),q.2)
def dM (code:List Int) (c:Cur):(wR×qO×wC)×Cur :=
 (((aK code c).1,(qBk code (aK code c).1 (aW code (aK code c).2 (aK code c).1.bods.length 30)).1),(qBk code (aK code c).1 (aW code (aK code c).2 (aK code c).1.bods.length 30)).2)
theorem qM7 {code:List Int} {k:Int} {c:Cur} {p:wR} {m:qO} {s:wC} (h:yY m=true) (hs:wE p s=true) (hc1:1≤p.caps.length):fC (qB2 code k c m s).1.1∧kL (qB2 code k c m s).1.2:=by
 have hm:=qS1 h
 have hS:=rU hs
 have hM:=(jD m).1 h
 obtain ⟨hp,h1,h2,h3,h4,h5⟩:=(uP p s).1 hs
 obtain ⟨_,_,_,hb1,_⟩:=aL hp
 have t0:0<s.ths.length:=by omega
 have c0:0<s.chs.length:=by omega
 have hr:=hS.regs _ (wY s.ths 0 default t0)
 have hl:(s.chs.getD 0 default).list.length≤4000:=by
  have:=(h5 0 c0).1
  unfold vC at this
  simp only [Bool.and_eq_true,qK,decide_eq_true_eq] at this
  omega
 have htr:s.tr.length≤4000:=by
  simp only [uR,Bool.and_eq_true,decide_eq_true_eq] at h3
  omega
 have hk:=hm.regs _ (wY m.cores 0 default (by have:=hM.n1; have:=hM.cores; omega))
 have hv:=hm.views _ (wY m.cores 0 default (by have:=hM.n1; have:=hM.cores; omega))
 unfold qB2
 repeat' split
 ·refine ⟨hm,⟨by simpa using hS.ths,hS.chs,hS.tr,fun x hx=>?_,hS.list⟩⟩
  rcases List.mem_or_eq_of_mem_set hx with hx | rfl
  ·exact hS.regs x hx
  ·simpa using hr
 ·exact ⟨hm,⟨hS.ths,hS.chs,by simp; omega,hS.regs,hS.list⟩⟩
 ·refine ⟨hm,⟨hS.ths,by simpa using hS.chs,hS.tr,hS.regs,fun x hx=>?_⟩⟩
  rcases List.mem_or_eq_of_mem_set hx with hx | rfl
  ·exact hS.list x hx
  ·show ((s.chs.getD 0 default).list++[5]).length<_
   rw [List.length_append,List.length_singleton]
   omega
 ·refine ⟨hm,⟨by simpa using hS.ths,hS.chs,hS.tr,fun x hx=>?_,hS.list⟩⟩
  rcases List.mem_or_eq_of_mem_set hx with hx | rfl
  ·exact hS.regs x hx
  ·exact hr
 ·exact ⟨qOx hm (by simpa [qJ] using hk) hv,hS⟩
 ·exact ⟨hm,hS⟩
theorem qIi (code:List Int) (c:Cur):dB (dM code c).1.1∧fC (dM code c).1.2.1∧kL (dM code c).1.2.2:=by
 have hp:=qA8 code c
 have hc1:=(qCy code c).1
 unfold dM
 generalize aK code c=r at hp hc1
 obtain ⟨p,d⟩:=r
 simp only at hp hc1⊢
 generalize aW code d p.bods.length 30=q
 have hs:wE p (xB p (jC p).1 (uI p q.1).1).1=true:=qGv (o:=(uI p q.1).1) hp
 refine ⟨qJe hp,?_⟩
 unfold qBk
 split
 ·rename_i h
  exact qM7 (qA4 h).2.2.1 hs hc1
 ·exact ⟨qCv (qJ5 p q.1).2 (by omega),rU hs⟩
theorem qGu (code:List Int) (c:Cur) (hb:code.length<2^62):qU Tryz.prog num 470 [.ptr 0 0 0] [(0,some (3,[kG code c]),some (3,[kG code (dM code c).2]))] (.tup [.agg (jS .own (dM code c).1.1),.agg (wG .own (dM code c).1.2.1),.agg (jB .own (dM code c).1.2.2)]):=by
 refine EH m470 Tryz.func118 ?_
 unfold m470
 simp only [go_sem,seval]
 repeat refine K ?_
 refine CA [(0,0)] (qGt code c hb) ?_
 try simp only [go_sem,seval]
 repeat refine K ?_
 have hp:=qA8 code c
 have hc1:=(qCy code c).1
 unfold dM
 generalize aK code c=r at hp hc1
 obtain ⟨p,d⟩:=r
 simp only at hp hc1⊢
 have hpp:=qJe hp
 have hl:(aW code d p.bods.length 30).1.length≤6*30:=qLi code d p.bods.length (most:=30)
 have hx:=qLh (code:=code) (c:=d) (cores:=p.bods.length) (most:=30)
 have cp:=qGs code d p.bods.length 30 hb (by omega)
 generalize aW code d p.bods.length 30=q at *
 obtain ⟨l,e⟩:=q
 simp only at hl hx cp⊢
 have cw:=qFk p l hpp (by omega) hx
 have hz:=(qJ5 p l).1
 have hwr:=fun h=>(@qA4 p l h).2.2.1
 have csn:=qCq p hpp.caps hpp.bods hpp.body'
 have csr:=qCp p (jC p).1 (uI p l).1 hpp (qPl p [] hp) (by omega)
 have hjo:wE p (xB p (jC p).1 (uI p l).1).1=true:=qGv (o:=(uI p l).1) hp
 unfold qBk
 simp only
 generalize uI p l=W at *
 obtain ⟨o,m,b⟩:=W
 simp only at cw hz hwr csr hjo⊢
 generalize xB p (jC p).1 o=R at *
 obtain ⟨s,cs⟩:=R
 simp only at csr hjo⊢
 generalize jC p=N at *
 obtain ⟨s0,b0⟩:=N
 simp only at csr csn⊢
 obtain ⟨_,_,_,hb1,_⟩:=aL hp
 obtain ⟨_,j1,j2,j3,j4,j5⟩:=(uP p s).1 hjo
 have t0:0<s.ths.length:=by omega
 have c0:0<s.chs.length:=by omega
 have hgt:=wH .own s.ths 0 t0
 have gts :∀r,((yS .own s.ths).set 0 r).getD 0 []=r:=fun r=>wJ _ _ _ _ (by rw [zE]; omega)
 have hgc:=eY .own s.chs 0 c0
 have gcs :∀r,((wM .own s.chs).set 0 r).getD 0 []=r:=fun r=>wJ _ _ _ _ (by rw [hY]; omega)
 have hrl:(s.ths.getD 0 default).regs.length=4:=by
  have:=j4 0 t0
  unfold vG at this
  simp only [Bool.and_eq_true,decide_eq_true_eq] at this
  omega
 have r1:1<(s.ths.getD 0 default).regs.length:=by omega
 have r2:(1:Int)<((s.ths.getD 0 default).regs.length:Nat):=by omega
 have hrg:=qI (s.ths.getD 0 default).regs 1 r1
 have htr:s.tr.length≤4000:=by
  simp only [uR,Bool.and_eq_true,decide_eq_true_eq] at j3
  omega
 have n1:16*(s.tr.length+1)≤140737488355328:=by omega
 have n2:s.tr.length≤140737488355327:=by omega
 have hcl:(s.chs.getD 0 default).list.length≤4:=by
  have:=(j5 0 c0).1
  unfold vC at this
  simp only [Bool.and_eq_true,qK,decide_eq_true_eq] at this
  omega
 have n3:8*((s.chs.getD 0 default).list.length+1)≤140737488355328:=by omega
 have n4:(s.chs.getD 0 default).list.length≤140737488355327:=by omega
 have hk:b=true→0<m.cores.length∧(m.cores.getD 0 default).regs.length=8:=by
  intro h
  have hM:=(jD m).1 (hwr h)
  have h0:0<m.cores.length:=by have:=hM.n1; have:=hM.cores; omega
  exact ⟨h0,(hM.core 0 h0).regs⟩
 try simp only [go_sem,seval]
 repeat refine K ?_
 refine ⟨?_,?_⟩
 ·refine DA [(0,0)] (cp) ?_
  try simp only [go_sem,seval]
  repeat refine K ?_
  try simp only [go_sem,seval]
  repeat refine K ?_
  refine ⟨?_,?_⟩
  ·refine DA [] (cw) ?_
   try simp only [go_sem,seval]
   repeat refine K ?_
   try simp only [go_sem,seval]
   repeat refine K ?_
   refine CA [] (csn) ?_
   try simp only [go_sem,seval]
   repeat refine K ?_
   try simp only [go_sem,seval]
   repeat refine K ?_
   refine CA [] (csr) ?_
   try simp only [go_sem,seval]
   repeat refine K ?_
   cases b
   ·try simp only [go_sem,seval]
    repeat refine K ?_
    apply wA (by simp)
    ·exact Sub.refl _
    ·simp [-List.drop_one,-gD,]<;>(first | rfl | exact ⟨rfl,rfl⟩ | exact ⟨rfl,rfl,rfl⟩ | skip)
   obtain ⟨k0,hkl⟩:=hk rfl
   have hgk:=uY .own m.cores 0 k0
   have gks :∀r,((cores .own m.cores).set 0 r).getD 0 []=r:=fun r=>wJ _ _ _ _ (by rw [vA]; omega)
   have k1:2<(m.cores.getD 0 default).regs.length:=by omega
   have k2:(2:Int)<((m.cores.getD 0 default).regs.length:Nat):=by omega
   try simp only [go_sem,seval]
   repeat refine K ?_
   refine CA [(0,0)] (yL code e 12 hb) ?_
   try simp only [go_sem,seval]
   repeat refine K ?_
   try simp only [if_true]
   generalize qV code e 12=k
   obtain ⟨k,g⟩:=k
   simp only
   unfold qB2
   by_cases k3:k=0
   ·subst k3
    try simp only [go_sem,seval,reduceCtorEq,hgt,gts,r1,r2,hrg]
    repeat refine K ?_
    apply wA (by simp)
    ·refine Sub.trans (Sub.foldAt 27 1 31 rfl (by simp [-gD]<;>omega) rfl (by decide) (by decide) rfl (by simp<;>omega)) ?_
     simp only [fS,fS2,qA,qC,wP]
     exact Sub.refl _
    ·simp [-List.drop_one,-gD,]<;>(first | rfl | exact ⟨rfl,rfl⟩ | exact ⟨rfl,rfl,rfl⟩ | skip)
   by_cases k4:k=1
   ·subst k4
    try simp only [go_sem,seval,reduceCtorEq,n1,n2]
    repeat refine K ?_
    apply wA (by simp)
    ·exact Sub.refl _
    ·simp [-List.drop_one,-gD,jL,rH]<;>(first | rfl | exact ⟨rfl,rfl⟩ | exact ⟨rfl,rfl,rfl⟩ | skip)
   by_cases k5:k=2
   ·subst k5
    try simp only [go_sem,seval,reduceCtorEq,hgc,gcs,n3,n4]
    repeat refine K ?_
    apply wA (by simp)
    ·refine Sub.trans (Sub.foldAt 28 1 33 rfl (by simp [-gD]<;>omega) rfl (by decide) (by decide) rfl (by simp<;>omega)) ?_
     simp only [fS,fS2,qA,qC,fI,vF]
     exact Sub.refl _
    ·simp [-List.drop_one,-gD,]<;>(first | rfl | exact ⟨rfl,rfl⟩ | exact ⟨rfl,rfl,rfl⟩ | skip)
   by_cases k6:k=3
   ·subst k6
    try simp only [go_sem,seval,reduceCtorEq]
    repeat refine K ?_
    refine DA [(0,0)] (yL code g 3 hb) ?_
    try simp only [go_sem,seval]
    repeat refine K ?_
    try simp only [go_sem,seval,hgt,gts]
    repeat refine K ?_
    apply wA (by simp)
    ·exact Sub.refl _
    ·simp [-List.drop_one,-gD,]<;>(first | rfl | exact ⟨rfl,rfl⟩ | exact ⟨rfl,rfl,rfl⟩ | skip)
   by_cases k7:k=4
   ·subst k7
    try simp only [go_sem,seval,reduceCtorEq,hgk,gks,k1,k2,qI (m.cores.getD 0 default).regs 2 k1]
    repeat refine K ?_
    apply wA (by simp)
    ·refine Sub.trans (Sub.foldAt 19 1 31 rfl (by simp [-gD]<;>omega) rfl (by decide) (by decide) rfl (by simp<;>omega)) ?_
     simp only [fS,fS2,qA,qC,qY]
     exact Sub.refl _
    ·simp [-List.drop_one,-gD,qJ,vT]<;>(first | rfl | exact ⟨rfl,rfl⟩ | exact ⟨rfl,rfl,rfl⟩ | skip)
   try simp only [go_sem,seval,k3,k4,k5,k6,k7]
   repeat refine K ?_
   apply wA (by simp)
   ·exact Sub.refl _
   ·simp [-List.drop_one,-gD,k3,k4,k5,k6,k7]<;>(first | rfl | exact ⟨rfl,rfl⟩ | exact ⟨rfl,rfl,rfl⟩ | skip)
  ·try simp only [go_sem,seval]
   repeat refine K ?_
   refine DA [] (cw) ?_
   try simp only [go_sem,seval]
   repeat refine K ?_
   try simp only [go_sem,seval]
   repeat refine K ?_
   refine CA [] (csn) ?_
   try simp only [go_sem,seval]
   repeat refine K ?_
   try simp only [go_sem,seval]
   repeat refine K ?_
   refine CA [] (csr) ?_
   try simp only [go_sem,seval]
   repeat refine K ?_
   cases b
   ·try simp only [go_sem,seval]
    repeat refine K ?_
    apply wA (by simp)
    ·exact Sub.refl _
    ·simp [-List.drop_one,-gD,]<;>(first | rfl | exact ⟨rfl,rfl⟩ | exact ⟨rfl,rfl,rfl⟩ | skip)
   obtain ⟨k0,hkl⟩:=hk rfl
   have hgk:=uY .own m.cores 0 k0
   have gks :∀r,((cores .own m.cores).set 0 r).getD 0 []=r:=fun r=>wJ _ _ _ _ (by rw [vA]; omega)
   have k1:2<(m.cores.getD 0 default).regs.length:=by omega
   have k2:(2:Int)<((m.cores.getD 0 default).regs.length:Nat):=by omega
   try simp only [go_sem,seval]
   repeat refine K ?_
   refine CA [(0,0)] (yL code e 12 hb) ?_
   try simp only [go_sem,seval]
   repeat refine K ?_
   try simp only [if_true]
   generalize qV code e 12=k
   obtain ⟨k,g⟩:=k
   simp only
   unfold qB2
   by_cases k3:k=0
   ·subst k3
    try simp only [go_sem,seval,reduceCtorEq,hgt,gts,r1,r2,hrg]
    repeat refine K ?_
    apply wA (by simp)
    ·refine Sub.trans (Sub.foldAt 27 1 31 rfl (by simp [-gD]<;>omega) rfl (by decide) (by decide) rfl (by simp<;>omega)) ?_
     simp only [fS,fS2,qA,qC,wP]
     exact Sub.refl _
    ·simp [-List.drop_one,-gD,]<;>(first | rfl | exact ⟨rfl,rfl⟩ | exact ⟨rfl,rfl,rfl⟩ | skip)
   by_cases k4:k=1
   ·subst k4
    try simp only [go_sem,seval,reduceCtorEq,n1,n2]
    repeat refine K ?_
    apply wA (by simp)
    ·exact Sub.refl _
    ·simp [-List.drop_one,-gD,jL,rH]<;>(first | rfl | exact ⟨rfl,rfl⟩ | exact ⟨rfl,rfl,rfl⟩ | skip)
   by_cases k5:k=2
   ·subst k5
    try simp only [go_sem,seval,reduceCtorEq,hgc,gcs,n3,n4]
    repeat refine K ?_
    apply wA (by simp)
    ·refine Sub.trans (Sub.foldAt 28 1 33 rfl (by simp [-gD]<;>omega) rfl (by decide) (by decide) rfl (by simp<;>omega)) ?_
     simp only [fS,fS2,qA,qC,fI,vF]
     exact Sub.refl _
    ·simp [-List.drop_one,-gD,]<;>(first | rfl | exact ⟨rfl,rfl⟩ | exact ⟨rfl,rfl,rfl⟩ | skip)
   by_cases k6:k=3
   ·subst k6
    try simp only [go_sem,seval,reduceCtorEq]
    repeat refine K ?_
    refine DA [(0,0)] (yL code g 3 hb) ?_
    try simp only [go_sem,seval]
    repeat refine K ?_
    try simp only [go_sem,seval,hgt,gts]
    repeat refine K ?_
    apply wA (by simp)
    ·exact Sub.refl _
    ·simp [-List.drop_one,-gD,]<;>(first | rfl | exact ⟨rfl,rfl⟩ | exact ⟨rfl,rfl,rfl⟩ | skip)
   by_cases k7:k=4
   ·subst k7
    try simp only [go_sem,seval,reduceCtorEq,hgk,gks,k1,k2,qI (m.cores.getD 0 default).regs 2 k1]
    repeat refine K ?_
    apply wA (by simp)
    ·refine Sub.trans (Sub.foldAt 20 1 31 rfl (by simp [-gD]<;>omega) rfl (by decide) (by decide) rfl (by simp<;>omega)) ?_
     simp only [fS,fS2,qA,qC,qY]
     exact Sub.refl _
    ·simp [-List.drop_one,-gD,qJ,vT]<;>(first | rfl | exact ⟨rfl,rfl⟩ | exact ⟨rfl,rfl,rfl⟩ | skip)
   try simp only [go_sem,seval,k3,k4,k5,k6,k7]
   repeat refine K ?_
   apply wA (by simp)
   ·exact Sub.refl _
   ·simp [-List.drop_one,-gD,k3,k4,k5,k6,k7]<;>(first | rfl | exact ⟨rfl,rfl⟩ | exact ⟨rfl,rfl,rfl⟩ | skip)
 ·try simp only [go_sem,seval]
  repeat refine K ?_
  refine DA [(0,0)] (cp) ?_
  try simp only [go_sem,seval]
  repeat refine K ?_
  refine DA [] (cw) ?_
  try simp only [go_sem,seval]
  repeat refine K ?_
  try simp only [go_sem,seval]
  repeat refine K ?_
  refine CA [] (csn) ?_
  try simp only [go_sem,seval]
  repeat refine K ?_
  try simp only [go_sem,seval]
  repeat refine K ?_
  refine CA [] (csr) ?_
  try simp only [go_sem,seval]
  repeat refine K ?_
  cases b
  ·try simp only [go_sem,seval]
   repeat refine K ?_
   apply wA (by simp)
   ·exact Sub.refl _
   ·simp [-List.drop_one,-gD,]<;>(first | rfl | exact ⟨rfl,rfl⟩ | exact ⟨rfl,rfl,rfl⟩ | skip)
  obtain ⟨k0,hkl⟩:=hk rfl
  have hgk:=uY .own m.cores 0 k0
  have gks :∀r,((cores .own m.cores).set 0 r).getD 0 []=r:=fun r=>wJ _ _ _ _ (by rw [vA]; omega)
  have k1:2<(m.cores.getD 0 default).regs.length:=by omega
  have k2:(2:Int)<((m.cores.getD 0 default).regs.length:Nat):=by omega
  try simp only [go_sem,seval]
  repeat refine K ?_
  refine CA [(0,0)] (yL code e 12 hb) ?_
  try simp only [go_sem,seval]
  repeat refine K ?_
  try simp only [if_true]
  generalize qV code e 12=k
  obtain ⟨k,g⟩:=k
  simp only
  unfold qB2
  by_cases k3:k=0
  ·subst k3
   try simp only [go_sem,seval,reduceCtorEq,hgt,gts,r1,r2,hrg]
   repeat refine K ?_
   apply wA (by simp)
   ·refine Sub.trans (Sub.foldAt 27 1 31 rfl (by simp [-gD]<;>omega) rfl (by decide) (by decide) rfl (by simp<;>omega)) ?_
    simp only [fS,fS2,qA,qC,wP]
    exact Sub.refl _
   ·simp [-List.drop_one,-gD,]<;>(first | rfl | exact ⟨rfl,rfl⟩ | exact ⟨rfl,rfl,rfl⟩ | skip)
  by_cases k4:k=1
  ·subst k4
   try simp only [go_sem,seval,reduceCtorEq,n1,n2]
   repeat refine K ?_
   apply wA (by simp)
   ·exact Sub.refl _
   ·simp [-List.drop_one,-gD,jL,rH]<;>(first | rfl | exact ⟨rfl,rfl⟩ | exact ⟨rfl,rfl,rfl⟩ | skip)
  by_cases k5:k=2
  ·subst k5
   try simp only [go_sem,seval,reduceCtorEq,hgc,gcs,n3,n4]
   repeat refine K ?_
   apply wA (by simp)
   ·refine Sub.trans (Sub.foldAt 28 1 33 rfl (by simp [-gD]<;>omega) rfl (by decide) (by decide) rfl (by simp<;>omega)) ?_
    simp only [fS,fS2,qA,qC,fI,vF]
    exact Sub.refl _
   ·simp [-List.drop_one,-gD,]<;>(first | rfl | exact ⟨rfl,rfl⟩ | exact ⟨rfl,rfl,rfl⟩ | skip)
  by_cases k6:k=3
  ·subst k6
   try simp only [go_sem,seval,reduceCtorEq]
   repeat refine K ?_
   refine DA [(0,0)] (yL code g 3 hb) ?_
   try simp only [go_sem,seval]
   repeat refine K ?_
   try simp only [go_sem,seval,hgt,gts]
   repeat refine K ?_
   apply wA (by simp)
   ·exact Sub.refl _
   ·simp [-List.drop_one,-gD,]<;>(first | rfl | exact ⟨rfl,rfl⟩ | exact ⟨rfl,rfl,rfl⟩ | skip)
  by_cases k7:k=4
  ·subst k7
   try simp only [go_sem,seval,reduceCtorEq,hgk,gks,k1,k2,qI (m.cores.getD 0 default).regs 2 k1]
   repeat refine K ?_
   apply wA (by simp)
   ·refine Sub.trans (Sub.foldAt 20 1 31 rfl (by simp [-gD]<;>omega) rfl (by decide) (by decide) rfl (by simp<;>omega)) ?_
    simp only [fS,fS2,qA,qC,qY]
    exact Sub.refl _
   ·simp [-List.drop_one,-gD,qJ,vT]<;>(first | rfl | exact ⟨rfl,rfl⟩ | exact ⟨rfl,rfl,rfl⟩ | skip)
  try simp only [go_sem,seval,k3,k4,k5,k6,k7]
  repeat refine K ?_
  apply wA (by simp)
  ·exact Sub.refl _
  ·simp [-List.drop_one,-gD,k3,k4,k5,k6,k7]<;>(first | rfl | exact ⟨rfl,rfl⟩ | exact ⟨rfl,rfl,rfl⟩ | skip)
theorem qO0 (code:List Int) (hb:code.length<2^62):qU Tryz.prog num 456 [.sl .fz 1 (bys code)] [] (.tup [.agg (jS .own (dM code (qA2 code)).1.1),.agg (wG .own (dM code (qA2 code)).1.2.1),.agg (jB .own (dM code (qA2 code)).1.2.2)]):=by
 refine EN m456 Tryz.func49 ?_
 unfold m456
 simp only [go_sem,seval]
 repeat refine K ?_
 refine nE (qLz (n1:=14) [(10,13)] (qNk code hb) ?_ ?_ ?_ ?_ ?_ ?_ ?_) ?_
 any_goals (first | omega | (simp [qQ,qR]; done) | (simp [qQ,qR, *]; done))
 try simp only [go_sem,seval]
 repeat refine K ?_
 refine CA [(0,13)] (qGu code (qA2 code) hb) ?_
 try simp only [go_sem,seval]
 repeat refine K ?_
 generalize dM code (qA2 code)=r
 obtain ⟨⟨p,m,s⟩,d⟩:=r
 simp only
 try simp only [go_sem,seval]
 repeat refine K ?_
 apply wA (by simp)
 ·exact Sub.refl _
 ·simp [-List.drop_one,-gD,]<;>(first | rfl | exact ⟨rfl,rfl⟩ | exact ⟨rfl,rfl,rfl⟩ | skip)
def qX1 (code:List Int) (c:Cur):Int:=(qV code c 4).1-(qV code (qV code c 4).2 20).1/19
theorem qEv (code:List Int) (hb:code.length<2^62):qU Tryz.prog num 457 [.sl .fz 1 (bys code)] [] (.tup [.agg (jS .own (dM code (qA2 code)).1.1),.agg (wG .own (dM code (qA2 code)).1.2.1),.agg (jB .own (dM code (qA2 code)).1.2.2),.int .i64 (qX1 code (dM code (qA2 code)).2)]):=by
 refine EN m457 Tryz.func52 ?_
 unfold m457
 simp only [go_sem,seval]
 repeat refine K ?_
 refine nE (qLz (n1:=14) [(10,13)] (qNk code hb) ?_ ?_ ?_ ?_ ?_ ?_ ?_) ?_
 any_goals (first | omega | (simp [qQ,qR]; done) | (simp [qQ,qR, *]; done))
 try simp only [go_sem,seval]
 repeat refine K ?_
 refine CA [(0,13)] (qGu code (qA2 code) hb) ?_
 try simp only [go_sem,seval]
 repeat refine K ?_
 generalize dM code (qA2 code)=r
 obtain ⟨⟨p,m,s⟩,d⟩:=r
 unfold qX1
 have g1:=jR code d 4 (by omega)
 have g2:=jR code (qV code d 4).2 20 (by omega)
 have q0:Int.tdiv (qV code (qV code d 4).2 20).1 19=(qV code (qV code d 4).2 20).1/19:=Int.tdiv_eq_ediv_of_nonneg (by omega)
 have q1:IntKind.i64.wrap ((qV code (qV code d 4).2 20).1/19)=(qV code (qV code d 4).2 20).1/19:=wF (by omega) (by omega)
 have q2:IntKind.i64.wrap ((qV code d 4).1-(qV code (qV code d 4).2 20).1/19)=(qV code d 4).1-(qV code (qV code d 4).2 20).1/19:=wF (by omega) (by omega)
 simp only
 try simp only [go_sem,seval]
 repeat refine K ?_
 refine DA [(0,13)] (yL code d 4 hb) ?_
 try simp only [go_sem,seval]
 repeat refine K ?_
 try simp only [go_sem,seval]
 repeat refine K ?_
 refine DA [(0,13)] (yL code (qV code d 4).2 20 hb) ?_
 try simp only [go_sem,seval]
 repeat refine K ?_
 try simp only [go_sem,seval,q0,q1,q2]
 repeat refine K ?_
 apply wA (by simp)
 ·exact Sub.refl _
 ·simp [-List.drop_one,-gD,]<;>(first | rfl | exact ⟨rfl,rfl⟩ | exact ⟨rfl,rfl,rfl⟩ | skip)
end Go.Sep
