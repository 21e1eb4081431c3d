/- Contracts of functions. -/
import Derived.Test.YtbfklilhgekabaaFxx21
import Derived.Test.YtbfklilhgekabaaFxx22
import Derived.Test.YtbfklilhgekabaaFxx23
namespace Go.Sep
set_option maxHeartbeats 16000000
open Go.Proofs
set_option linter.unusedSimpArgs false
set_option linter.unusedVariables false
set_option maxRecDepth 100000
def m477:MFn:=⟨111,[.t 2],kr [xF 2] (.seq (kr [xv 19 0,xc1 20 19 (.t 19)] (kF 20 [xT 2])) (kr [xv 22 0,xo 23 (.call 168 [true] [.t 22]),xv 21 23,xX 24 21 0,xX 25 21 1,xo 3 (.alloc [.nil,.nil]),xS 2 3 24,xv 4 25] (kr [xm 26 2 3,xc1 27 190 (.t 26),xo 5 (.alloc [.nil,.nil]),xS 2 5 27] (kr [xv 29 0,xo 30 (.call 478 [true] [.t 29]),xv 28 30,xX 31 28 0,xX 32 28 1,xX 33 28 2,xo 6 (.alloc [xz,xz,xz,xz,xz]),xS 5 6 31,xv 7 32,xv 8 33] (kr [xv 34 0,xo 35 (.call 479 [true] [.t 34]),xv 9 35] (kr [xv 36 0,xo 37 (.call 480 [true] [.t 36]),xo 10 (.alloc [.nil,.nil]),xS 2 10 37] (.seq (.seq (.dreg (.take 0 (xm 38 5 6) (.take 1 (xv 39 7) (.take 2 (xv 40 8) (.take 4 (xm 42 5 6) (.take 5 (xv 43 7) (.take 6 (xv 44 8) (.only 3 [0,1,2] (xc3 41 292 (.t 38) (.t 39) (.t 40)) (.only 7 [3,4,5,6,0,1,2] (xc3 45 290 (.t 42) (.t 43) (.t 44)) (.only 8 [3,7,0,1,2,4,5,6] (xo 46 (.eqS true [true,true,true,true,true] (.t 41) (.t 45))) (.only 9 [7,3,4,5,6,0,1,2] (xv 47 46) (.take 10 (zv 48 9 47) (.take 12 (zv 50 9 47) (.only 11 [9,10,7,3,4,5,6,0,1,2] (xg 49 (.call 240 [false] [.t 48]) 47 false) (.only 13 [9,11,12,7,10,3,4,5,6,0,1,2] (xg 51 (.call 239 [false] [.t 50]) 47 false) (.only 14 [9,11,13,7,10,12,3,4,5,6,0,1,2] (xg 52 (.call 481 [false,false] [.t 49,.t 51]) 47 false) (.only 15 [9,14,7,11,13,3,4,5,6,10,12,0,1,2] (zN 53 52 47) (.only 16 [9,15,7,14,3,4,5,6,11,13,0,1,2,10,12] (xQ 54 47 53) (.only 17 [14,9,11,13,7,10,12,3,4,5,6,0,1,2] (xv 55 54) (.take 18 (xg 56 (.load 2 true (.t 10)) 55 false) (.take 20 (xg 58 (.load 2 true (.t 10)) 55 false) (.only 19 [17,18,14,9,11,13,7,10,12,3,4,5,6,0,1,2] (xg 57 (.call 190 [false] [.t 56]) 55 false) (.only 21 [17,19,20,14,18,9,11,13,7,10,12,3,4,5,6,0,1,2] (xg 59 (.call 189 [false] [.t 58]) 55 false) (.only 22 [17,19,21,14,18,20,9,11,13,7,10,12,3,4,5,6,0,1,2] (xg 60 (.call 482 [false,false] [.t 57,.t 59]) 55 false) (.only 23 [17,22,14,19,21,9,11,13,18,20,7,10,12,3,4,5,6,0,1,2] (zN 61 60 55) (.only 24 [17,23,14,22,9,11,13,19,21,7,10,12,18,20,3,4,5,6,0,1,2] (xQ 62 55 61) (.only 25 [22,17,19,21,14,18,20,9,11,13,7,10,12,3,4,5,6,0,1,2] (xv 63 62) (.only 26 [25,22,17,19,21,14,18,20,9,11,13,7,10,12,3,4,5,6,0,1,2] (xg 64 (.load 2 true (.t 5)) 63 false) (.only 27 [25,22,17,19,21,14,18,20,9,11,13,7,10,12,3,4,5,6,0,1,2] (xg 65 (.call 48 [false] [.t 64]) 63 false) (.only 28 [25,22,17,19,21,14,18,20,9,11,13,7,10,12,3,4,5,6,0,1,2] (zN 66 65 63) (.only 29 [25,22,17,19,21,14,18,20,9,11,13,7,10,12,3,4,5,6,0,1,2] (xQ 67 63 66) (.done)))))))))))))))))))))))))))))))) (kF 67 [xF 2])) (kr [xm 69 2 3,xc1 70 24 (.t 69),xv 68 70,xX 71 68 0,xX 72 68 1,xo 11 (.alloc [.nil,.nil,.nil]),xS 3 11 71,xv 12 72] (kr [xm 74 2 5,xc1 75 24 (.t 74),xv 73 75,xX 76 73 0,xX 77 73 1,xo 13 (.alloc [.nil,.nil,.nil]),xS 3 13 76,xv 14 77] (kr [xm 79 2 3,xm 80 3 11,xv 81 4,xc3 82 25 (.t 79) (.t 80) (.t 81),xv 78 82,xX 83 78 0,xX 84 78 1,xo 15 (.alloc [.nil,.nil,.nil]),xS 3 15 83,xv 16 84] (kr [xm 86 2 5,xm 87 3 13,xv 88 4,xc3 89 25 (.t 86) (.t 87) (.t 88),xv 85 89,xX 90 85 0,xX 91 85 1,xo 17 (.alloc [.nil,.nil,.nil]),xS 3 17 90,xv 18 91] (.seq (.dreg (.only 0 [] (xv 92 14) (.only 1 [] (xv 93 92) (.take 2 (yv 94 16 93) (.only 3 [] (yv 95 18 93) (.only 4 [2] (xg 96 (.call 23 [false,false] [.t 94,.t 95]) 93 true) (.only 5 [4,2] (xP 97 93 96) (.only 6 [4,2] (xv 98 97) (.take 7 (xg 99 (.load 3 true (.t 15)) 98 true) (.only 8 [6,4,2] (xg 100 (.load 3 true (.t 17)) 98 true) (.only 9 [6,7,4,2] (xg 101 (.call 483 [false,false] [.t 99,.t 100]) 98 true) (.only 10 [6,9,4,7,2] (xP 102 98 101) (.only 11 [9,6,7,4,2] (xv 103 102) (.take 12 (xg 104 (.load 2 true (.t 3)) 103 true) (.take 15 (xg 107 (.load 2 true (.t 5)) 103 true) (.only 13 [11,12,9,6,7,4,2] (xg 105 (.call 190 [false] [.t 104]) 103 true) (.only 14 [11,13,9,12,6,7,4,2] (xg 106 (.call 190 [false] [.t 105]) 103 true) (.only 16 [11,14,15,9,13,6,7,12,4,2] (xg 108 (.call 189 [false] [.t 107]) 103 true) (.only 17 [11,14,16,9,13,15,6,7,12,4,2] (xg 109 (.call 482 [false,false] [.t 106,.t 108]) 103 true) (.only 18 [11,17,9,14,16,6,7,13,15,4,12,2] (xP 110 103 109) (.only 19 [2,7,12,15] (xv 2 110) (.done)))))))))))))))))))))) (.ret)))))))))))))⟩
theorem qSr {p:wV} (h:yT p=true) (l:List Int):bK (wX p) (yP (wX p)).1 l=bK p (yP p).1 l:=by
 rw [qV3 h]
 have hs:=dC h
 have hs2:wF (wX p) (yP p).1=true:=qKi hs
 obtain ⟨h1,h2,_⟩:=qMs l (KnI.new h)
 unfold bK qXs
 rw [hs,hs2,qK2,qK2,h1,h2]
theorem qXh (code:List Int):wA Try.prog num 477 [.sl .fz 1 (bys code)] [] (.bool true):=by
 refine EN m477 Try.func5 ?_
 unfold m477
 simp only [go_sem,seval]
 repeat refine K ?_
 refine CA [] (qY5 code) ?_
 try simp only [go_sem,seval]
 repeat refine K ?_
 by_cases hbig:(1048576:Int)<code.length
 ·try simp only [go_sem,seval,hbig]
  repeat refine K ?_
  refine fz ?_; simp [yK,wB,wC,wJ,-List.drop_one]
 have hb:code.length<2^62:=by omega
 try simp only [go_sem,seval,hbig]
 repeat refine K ?_
 refine CA [] (qFs code hb) ?_
 try simp only [go_sem,seval]
 repeat refine K ?_
 obtain ⟨hp,hol,hox⟩:=qRv code
 generalize mA code=w at *
 obtain ⟨p,order⟩:=w
 simp only at hp hol hox⊢
 have hpp:=pR hp
 have hq:=cI hp
 have hqq:=pR hq
 have hr:=qSr hp order
 have cf1:=cP p hpp
 have cf2:=cP (wX p) hqq
 have cf3:=nB (wX p) hqq
 have hqf:=cI hq
 have hqqf:=pR hqf
 have csf:=qCf (wX (wX p)) hqqf
 have cpo:=eV (wX p) (by have:=hqq.caps; omega) (by have:=hqq.bods; omega) hqq.body'
 rw [hq] at cpo
 have sp0:=dC hp
 have csp:=lH p hpp.caps hpp.bods hpp.body'
 have csq:=lH (wX p) hqq.caps hqq.bods hqq.body'
 have np:(yP p).2=true:=by simp [yP,hp]
 have nq:(yP (wX p)).2=true:=by simp [yP,hq]
 have sq0:=dC hq
 have crp:=lG p (yP p).1 order hpp (tW sp0) (by omega)
 have crq:=lG (wX p) (yP (wX p)).1 order hqq (tW sq0) (by omega)
 rw [hr] at crq
 have hjr:wF p (bK p (yP p).1 order).1=true:=qOu (o:=order) hp
 have hjl:(bK p (yP p).1 order).2.length=order.length:=qUp (o:=order) hp (by omega)
 have hsm:=tW hjr
 rw [np] at csp
 rw [nq] at csq
 generalize wX (wX p)=qq at *
 generalize wX p=q at *
 generalize bK p (yP p).1 order=R at *
 obtain ⟨u,one⟩:=R
 simp only at crp crq hsm hjl
 generalize (yP p).1=s at *
 generalize (yP q).1=t at *
 try simp only [go_sem,seval]
 repeat refine K ?_
 refine CA [] (cf1) ?_
 try simp only [go_sem,seval]
 repeat refine K ?_
 try simp only [go_sem,seval]
 repeat refine K ?_
 refine CA [] (qFt code hb) ?_
 try simp only [go_sem,seval]
 repeat refine K ?_
 have hkl:=qKj code
 generalize lI code=k at hkl
 obtain ⟨k,nx⟩:=k
 simp only at hkl⊢
 generalize qU1 code=x
 try simp only [go_sem,seval]
 repeat refine K ?_
 refine CA [] (qDg code hb) ?_
 try simp only [go_sem,seval]
 repeat refine K ?_
 have hll:=qGc code (eE code)
 generalize mX code (eE code)=L at hll
 obtain ⟨L,e⟩:=L
 simp only at hll⊢
 try simp only [go_sem,seval]
 repeat refine K ?_
 refine CA [] (qDf code hb) ?_
 try simp only [go_sem,seval]
 repeat refine K ?_
 obtain ⟨z1,z2,z3⟩:=qN1 code (eE code)
 generalize qAq code (eE code)=z at z1 z2 z3
 obtain ⟨z,e2⟩:=z
 simp only at z1 z2 z3⊢
 have hz:aG z:=⟨by omega,by omega,fun b hb=>by have:=z3 b hb; omega⟩
 have hzl:(wX z).bods.length=z.bods.length:=by unfold wX; split<;>simp
 try simp only [go_sem,seval]
 repeat refine K ?_
 have hfz:aG (wX z):=by
  by_cases hzo:yT z=true
  ·exact pR (cI hzo)
  ·unfold wX
   rw [if_neg hzo]
   exact hz
 have hfl:=aW L
 refine DA [] (oZ x k nx (by omega)) ?_
 try simp only [go_sem,seval]
 repeat refine K ?_
 refine DA [] (nV x k nx (by omega)) ?_
 try simp only [go_sem,seval]
 repeat refine K ?_
 try simp only [go_sem,seval]
 repeat refine K ?_
 refine DA [] (nG L (by omega)) ?_
 try simp only [go_sem,seval]
 repeat refine K ?_
 refine DA [] (nC L (by omega)) ?_
 try simp only [go_sem,seval]
 repeat refine K ?_
 refine DA [] (qEg (dG L) (by omega)) ?_
 try simp only [go_sem,seval]
 repeat refine K ?_
 try simp only [go_sem,seval]
 repeat refine K ?_
 refine DA [] (cP z hz) ?_
 try simp only [go_sem,seval]
 repeat refine K ?_
 refine DA [] (nB z hz) ?_
 try simp only [go_sem,seval]
 repeat refine K ?_
 refine DA [] (qCf (wX z) hfz) ?_
 try simp only [go_sem,seval]
 repeat refine K ?_
 try simp only [go_sem,seval]
 repeat refine K ?_
 refine DA [] (cpo) ?_
 try simp only [go_sem,seval]
 repeat refine K ?_
 try simp only [go_sem,seval]
 repeat refine K ?_
 refine CA [] (csp) ?_
 try simp only [go_sem,seval]
 repeat refine K ?_
 try simp only [go_sem,seval]
 repeat refine K ?_
 refine CA [] (csq) ?_
 try simp only [go_sem,seval]
 repeat refine K ?_
 try simp only [go_sem,seval]
 repeat refine K ?_
 refine CA [] (crp) ?_
 try simp only [go_sem,seval]
 repeat refine K ?_
 try simp only [go_sem,seval]
 repeat refine K ?_
 refine CA [] (crq) ?_
 try simp only [go_sem,seval]
 repeat refine K ?_
 try simp only [go_sem,seval]
 repeat refine K ?_
 refine DA [] (iG one one (by omega)) ?_
 try simp only [go_sem,seval]
 repeat refine K ?_
 try simp only [go_sem,seval]
 repeat refine K ?_
 refine DA [] (qH7 u hsm) ?_
 try simp only [go_sem,seval]
 repeat refine K ?_
 try simp only [go_sem,seval]
 repeat refine K ?_
 refine DA [] (cf1) ?_
 try simp only [go_sem,seval]
 repeat refine K ?_
 refine DA [] (cf2) ?_
 try simp only [go_sem,seval]
 repeat refine K ?_
 refine DA [] (cf3) ?_
 try simp only [go_sem,seval]
 repeat refine K ?_
 refine DA [] (csf) ?_
 try simp only [go_sem,seval]
 repeat refine K ?_
 try simp only [go_sem,seval]
 repeat refine K ?_
 refine fz ?_; simp [yK,wB,wC,wJ,-List.drop_one]
end Go.Sep
