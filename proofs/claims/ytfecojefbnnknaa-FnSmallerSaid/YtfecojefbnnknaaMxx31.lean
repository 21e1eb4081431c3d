/- Contracts of functions. -/
import Derived.Test.YtfecojefbnnknaaMxx26
import Derived.Test.YtfecojefbnnknaaMxx30
open List renaming drop_one → wEc
namespace Go.Sep
set_option maxHeartbeats 16000000
open Go.Proofs
set_option linter.unusedSimpArgs false
set_option linter.unusedVariables false
set_option maxRecDepth 100000
open Nat renaming reduceAdd → qA, reduceMul → qB, reduceEqDiff → qC, reduceBEq → qD
open Int renaming reduceToNat → qE, reduceEq → qF, reduceLT → qG, reduceLE → qH
open List renaming getD_eq_getElem?_getD → gD
def m486:MFn:=⟨106,[.t 2],kr [xF 2] (.seq (kr [xv 13 0,xc1 14 19 (.t 13)] (kF 14 [xT 2])) (kr [xv 15 0,xo 16 (.call 158 [true] [.t 15]),xo 3 (.alloc [.nil,.nil]),xS 2 3 16] (kr [xm 17 2 3,xc1 18 487 (.t 17),xo 4 (.alloc [.nil,.nil]),xS 2 4 18] (kr [xm 20 2 3,xc1 21 24 (.t 20),xv 19 21,xX 22 19 0,xX 23 19 1,xo 5 (.alloc [.nil,.nil,.nil]),xS 3 5 22,xv 6 23] (kr [xm 25 2 4,xc1 26 24 (.t 25),xv 24 26,xX 27 24 0,xX 28 24 1,xo 7 (.alloc [.nil,.nil,.nil]),xS 3 7 27,xv 8 28] (.seq (.seq (.dreg (.only 0 [] (xv 29 6) (.only 1 [] (xN 30 29) (.only 2 [] (xv 31 30) (.only 3 [] (zv 32 8 31) (.only 4 [] (zN 33 32 31) (.only 5 [] (xQ 34 31 33) (.only 6 [] (xv 35 34) (.take 7 (za 36 1 4 35) (.take 8 (zl 37 1 36 35) (.take 9 (xg 38 (.iad 1 (.t 37) (xi 0)) 35 false) (.take 10 (zl 39 1 38 35) (.take 11 (ze 40 39 35) (.only 12 [] (za 41 1 3 35) (.only 13 [] (zl 42 1 41 35) (.only 14 [] (xg 43 (.iad 1 (.t 42) (xi 0)) 35 false) (.only 15 [] (zl 44 1 43 35) (.only 16 [] (ze 45 44 35) (.only 17 [11,10,9,8,7] (xg 46 (.bin .gtr (.t 40) (.t 45)) 35 false) (.only 18 [17,11,10,9,8,7] (xQ 47 35 46) (.done))))))))))))))))))))) (kF 47 [xF 2])) (kr [xm 49 2 3,xm 50 3 5,xc3 51 144 (.t 49) (.t 50) (xi 120),xv 48 51,xX 52 48 0,xX 53 48 1,xo 9 (.alloc [.nil,.nil,.nil]),xS 3 9 52,xv 10 53] (kr [xm 55 2 4,xm 56 3 7,xc3 57 144 (.t 55) (.t 56) (xi 120),xv 54 57,xX 58 54 0,xX 59 54 1,xo 11 (.alloc [.nil,.nil,.nil]),xS 3 11 58,xv 12 59] (.seq (.dreg (.take 0 (xa 60 2 11) (.take 1 (xl 61 60) (.take 2 (xe 62 61) (.only 3 [] (xa 63 2 9) (.only 4 [] (xl 64 63) (.only 5 [] (xe 65 64) (.only 6 [2,1,0] (bT 66 .geq 62 65) (.only 7 [6,2,1,0] (xv 67 66) (.take 8 (ya 68 2 11 67) (.take 9 (yl 69 1 68 67) (.take 10 (ya 70 2 9 67) (.take 11 (yl 71 1 70 67) (.take 12 (ye 72 71 67) (.take 13 (xg 73 (.cut 2 (.t 69) none (some (.t 72))) 67 true) (.only 14 [7,6,2,1,0] (ya 74 2 9 67) (.only 15 [7,6,2,1,0] (yl 75 1 74 67) (.only 16 [7,13,6,9,12,2,8,11,1,10,0] (xg 76 (.call 160 [false,false] [.t 73,.t 75]) 67 true) (.only 17 [7,16,6,13,2,9,12,1,8,11,0,10] (xP 77 67 76) (.only 18 [16,7,13,6,9,12,2,8,11,1,10,0] (xv 78 77) (.only 19 [18,16,7,13,6,9,12,2,8,11,1,10,0] (ya 79 0 9 78) (.only 20 [18,16,7,13,6,9,12,2,8,11,1,10,0] (yl 80 1 79 78) (.only 21 [18,16,7,13,6,9,12,2,8,11,1,10,0] (xg 81 (.iad 3 (.t 80) (xi 0)) 78 true) (.only 22 [18,16,7,13,6,9,12,2,8,11,1,10,0] (ya 82 2 81 78) (.only 23 [18,16,7,13,6,9,12,2,8,11,1,10,0] (yl 83 1 82 78) (.only 24 [18,16,7,13,6,9,12,2,8,11,1,10,0] (yI 84 .eql 83 0 78) (.only 25 [18,16,7,13,6,9,12,2,8,11,1,10,0] (yv 85 84 78) (.take 26 (za 86 2 9 85) (.take 27 (zl 87 1 86 85) (.only 28 [25,18,16,7,13,6,9,12,2,8,11,1,10,0] (za 88 2 11 85) (.only 29 [25,18,16,7,13,6,9,12,2,8,11,1,10,0] (zl 89 1 88 85) (.only 30 [25,27,18,26,16,7,13,6,9,12,2,8,11,1,10,0] (xg 90 (.call 160 [false,false] [.t 87,.t 89]) 85 false) (.only 31 [25,30,18,27,16,26,7,13,6,9,12,2,8,11,1,10,0] (zv 91 90 85) (.take 32 (ya 92 0 9 91) (.take 33 (yl 93 1 92 91) (.take 34 (xg 94 (.iad 3 (.t 93) (xi 0)) 91 true) (.take 35 (ya 95 2 94 91) (.take 36 (yl 96 1 95 91) (.only 37 [31,25,30,18,27,16,26,7,13,6,9,12,2,8,11,1,10,0] (ya 97 0 11 91) (.only 38 [31,25,30,18,27,16,26,7,13,6,9,12,2,8,11,1,10,0] (yl 98 1 97 91) (.only 39 [31,25,30,18,27,16,26,7,13,6,9,12,2,8,11,1,10,0] (xg 99 (.iad 3 (.t 98) (xi 0)) 91 true) (.only 40 [31,25,30,18,27,16,26,7,13,6,9,12,2,8,11,1,10,0] (ya 100 2 99 91) (.only 41 [31,25,30,18,27,16,26,7,13,6,9,12,2,8,11,1,10,0] (yl 101 1 100 91) (.only 42 [31,36,25,30,35,18,27,34,16,26,33,7,13,32,6,9,12,2,8,11,1,10,0] (xg 102 (.bin .eql (.t 96) (.t 101)) 91 true) (.only 43 [25,31,42,18,30,36,16,27,35,7,13,26,34,6,9,12,33,2,8,11,32,1,10,0] (xg 103 (.pick (.t 91) (.t 102) (.c (.bool false))) 85 false) (.only 44 [18,43,16,31,42,7,13,30,36,6,9,12,27,35,2,8,11,26,34,1,10,33,0,32] (xg 104 (.pick (.t 85) (.c (.bool true)) (.t 103)) 78 true) (.only 45 [18,44,16,43,7,13,31,42,6,9,12,30,36,2,8,11,27,35,1,10,26,34,0,33,32] (xP 105 78 104) (.only 46 [0,1,2,8,9,10,11,12,13,26,27,32,33,34,35,36] (xv 2 105) (.done))))))))))))))))))))))))))))))))))))))))))))))))) (.ret))))))))))⟩
def m487:MFn:=⟨7,[.cell 2 2 true],kr [xb 1 0,xo 2 (.alloc [.nil,.nil])] (kR [xm 3 2 1,xc1 4 190 (.t 3),xc1 5 169 (.t 4),xc1 6 159 (.t 5),xS 2 2 6])⟩
noncomputable def lD (p:wK):wK:=bB (vO (jA p))
theorem qTm {p:wK} (h:wY p=true):wY (lD p)=true:=qDd (aP (aT h))
theorem qFc {p:wK} (h:wY p=true):(lD p).bods=p.bods.map fun b=>aQ (xM (eN b)):=by
 unfold lD
 rw [cJ (aP (aT h)),cI (aT h),cS h]
 simp
theorem qTj {p:wK} (h:wY p=true) (h1:p.bods.length=1):(lD p).bods.length=1:=by rw [qFc h,List.length_map,h1]
theorem qWp (l:List Ins):(aQ l).length≤l.length:=by
 unfold aQ
 split
 ·rw [zD]
  exact qFw _ _
 ·exact Nat.le_refl _
theorem qTk {p:wK} (h:wY p=true) (h1:p.bods.length=1):((lD p).bods.getD 0 []).length≤(p.bods.getD 0 []).length:=by
 rw [qFc h]
 have:(p.bods.map fun b=>aQ (xM (eN b))).getD 0 []=aQ (xM (eN (p.bods.getD 0 []))):=by
  simp [List.getD_eq_getElem?_getD,h1]
 rw [this]
 have h2:=qWp (xM (eN (p.bods.getD 0 [])))
 rw [fI,nJ] at h2
 exact h2
theorem qTl {p:wK} (h:wY p=true) (h1:p.bods.length=1):Beh p (lD p):=by
 have hf:=aT h
 have hf1:(jA p).bods.length=1:=by rw [cS h]; simp [h1]
 have ht:=aP hf
 have ht1:(vO (jA p)).bods.length=1:=by rw [cI hf]; simp [hf1]
 exact (qXs h).trans ((qW0 hf hf1).trans (qWn ht ht1))
theorem qGo (p:wK) (hp:eZ p) (h:wY p=true):wD Try.prog num 487 [.agg (bH .bw p)] [] (.agg (bH .own (lD p))):=by
 have hf:=aT h
 have ht:=aP hf
 have c1:=qEd p hp
 have c2:=qI0 (jA p) (rH hf)
 have c3:=qI6 (vO (jA p)) (rH ht)
 unfold lD
 generalize bB (vO (jA p))=r at *
 generalize vO (jA p)=t at *
 generalize jA p=q at *
 refine EN m487 Try.func13 ?_
 unfold m487
 simp only [go_sem,seval]
 repeat refine K ?_
 refine CA [] (c1) ?_
 try simp only [go_sem,seval]
 repeat refine K ?_
 try simp only [go_sem,seval]
 repeat refine K ?_
 refine CA [] (c2) ?_
 try simp only [go_sem,seval]
 repeat refine K ?_
 try simp only [go_sem,seval]
 repeat refine K ?_
 refine CA [] (c3) ?_
 try simp only [go_sem,seval]
 repeat refine K ?_
 try simp only [go_sem,seval]
 repeat refine K ?_
 apply wT
 ·exact Sub.refl _
 ·simp [-wEc,-gD,]<;>(first | rfl | exact ⟨rfl,rfl⟩ | exact ⟨rfl,rfl,rfl⟩ | skip)
theorem wAa (code:List Int):wD Try.prog num 486 [.sl .fz 1 (bys code)] [] (.bool true):=by
 refine EN m486 Try.func4 ?_
 unfold m486
 simp only [go_sem,seval]
 repeat refine K ?_
 refine CA [] (wBj code) ?_
 try simp only [go_sem,seval]
 repeat refine K ?_
 by_cases hbig:(1048576:Int)<code.length
 ·try simp only [go_sem,seval,hbig]
  repeat refine K ?_
  refine fz ?_; simp [yS,wL,wM,wV,-wEc]
 have hb:code.length<2^62:=by omega
 try simp only [go_sem,seval,hbig]
 repeat refine K ?_
 refine CA [] (qOi code hb) ?_
 try simp only [go_sem,seval]
 repeat refine K ?_
 obtain ⟨hp,h1⟩:=qNt code
 generalize qJk code=p at hp h1
 have hpp:=rH hp
 have hq:=qTm hp
 have hqq:=rH hq
 obtain ⟨l1,l2,l3⟩:=Beh.law hq (qTl hp h1) 120
 have h1q:(lD p).bods.length=1:=qTj hp h1
 have hqp:=qTk hp h1
 have ep:=qJz hp h1 (n:=120) (by decide)
 have eq:=qJz hq h1q (n:=120) (by decide)
 have okp:=rQ hp 120
 have okq:=rQ hq 120
 have tp:=(qFy okp).1
 have tq:=(qFy okq).1
 have cpk:=qGo p hpp hp
 generalize lD p=q at *
 have np:(wE p).2=true:=by simp [wE,hp]
 have nq:(wE q).2=true:=by simp [wE,hq]
 have okp0:=bQ hp
 have okq0:=bQ hq
 have csp:=mE p (by have:=hpp.caps; omega) (by have:=hpp.bods; omega) (fun b hb=>by have:=hpp.body b hb; omega)
 have csq:=mE q (by have:=hqq.caps; omega) (by have:=hqq.bods; omega) (fun b hb=>by have:=hqq.body b hb; omega)
 have cfp:=qDo p (wE p).1 120 hpp (oK okp0)
 have cfq:=qDo q (wE q).1 120 hqq (oK okq0)
 rw [np] at csp
 rw [nq] at csq
 have ep':(qGw p (wE p).1 120).1=xG p 120:=ep
 have eq':(qGw q (wE q).1 120).1=xG q 120:=eq
 rw [ep'] at cfp
 rw [eq'] at cfq
 have zp:=oK okp
 have zq:=oK okq
 generalize xG p 120=u at *
 generalize xG q 120=v at *
 generalize (qGw p (wE p).1 120).2=mu at *
 generalize (qGw q (wE q).1 120).2=mv at *
 generalize (wE p).1=s at *
 generalize (wE q).1=t at *
 have htu:u.tr.length<2^47:=by have:=zp.tr; omega
 have s1:=qAb u.tr u.tr htu
 have s2:=qAb u.tr v.tr htu
 have gu:(yJ .own u.ths).getD 0 []=aZ .own (thd u 0):=by
  rw [qS .own _ 0 (by omega)]
  rfl
 have gv:(yJ .own v.ths).getD 0 []=aZ .own (thd v 0):=by
  rw [qS .own _ 0 (by omega)]
  rfl
 try simp only [go_sem,seval]
 repeat refine K ?_
 refine CA [] (cpk) ?_
 try simp only [go_sem,seval]
 repeat refine K ?_
 try simp only [go_sem,seval]
 repeat refine K ?_
 refine CA [] (csp) ?_
 try simp only [go_sem,seval]
 repeat refine K ?_
 try simp only [go_sem,seval]
 repeat refine K ?_
 refine CA [] (csq) ?_
 try simp only [go_sem,seval]
 repeat refine K ?_
 have hq0:0<q.bods.length:=by omega
 have hp0:0<p.bods.length:=by omega
 have hq0':(0:Int)<(q.bods.length:Nat):=by omega
 have hp0':(0:Int)<(p.bods.length:Nat):=by omega
 have gq:=wF .own q.bods 0 hq0
 have gp:=wF .own p.bods 0 hp0
 have gqs :∀r,((yR .own q.bods).set 0 r).getD 0 []=r:=fun r=>jJ _ _ _ _ (by rw [dN]; omega)
 have gps :∀r,((yR .own p.bods).set 0 r).getD 0 []=r:=fun r=>jJ _ _ _ _ (by rw [dN]; omega)
 have hqQ:(yR .own q.bods).set 0 [.sl .own 5 (yX (q.bods.getD 0 []))]=yR .own q.bods:=by rw [←gq]; exact vW _ _ _ (by rw [dN]; omega)
 have hpP:(yR .own p.bods).set 0 [.sl .own 5 (yX (p.bods.getD 0 []))]=yR .own p.bods:=by rw [←gp]; exact vW _ _ _ (by rw [dN]; omega)
 have hno :¬(((p.bods.getD 0 []).length:Nat):Int)<((q.bods.getD 0 []).length:Nat):=by omega
 generalize q.bods.getD 0 []=bq at *
 generalize p.bods.getD 0 []=bp at *
 try simp only [go_sem,seval,hq0,hp0,hq0',hp0',gq,gp,gqs,gps,hno]
 repeat refine K ?_
 apply qYn
 ·refine Sub.trans (Sub.foldAt 14 0 24 rfl (by simp [-gD]<;>omega) rfl (by decide) (by decide) rfl (by simp<;>omega)) ?_
  simp only [fS,fS3,qA,qC,hqQ]
  refine Sub.trans (Sub.foldAt 11 0 25 rfl (by simp [-gD]<;>omega) rfl (by decide) (by decide) rfl (by simp<;>omega)) ?_
  simp only [fS,fS3,qA,qC,hpP]
  exact Sub.refl _
 refine CA [] (cfp) ?_
 try simp only [go_sem,seval]
 repeat refine K ?_
 try simp only [go_sem,seval]
 repeat refine K ?_
 refine CA [] (cfq) ?_
 try simp only [go_sem,seval]
 repeat refine K ?_
 have hle:((u.tr.length:Nat):Int)≤(v.tr.length:Nat):=by omega
 have gu2:=qS .own u.ths 0 (by omega)
 have gv2:=qS .own v.ths 0 (by omega)
 have tu0:0<u.ths.length:=by omega
 have tv0:0<v.ths.length:=by omega
 have tu1:(0:Int)<(u.ths.length:Nat):=by omega
 have tv1:(0:Int)<(v.ths.length:Nat):=by omega
 have eu:thd u 0=u.ths.getD 0 default:=rfl
 have ev:thd v 0=v.ths.getD 0 default:=rfl
 rw [eu,ev] at l3
 clear gu gv eu ev
 generalize u.ths.getD 0 default=U at *
 generalize v.ths.getD 0 default=V at *
 try simp only [go_sem,seval,hle,l1]
 repeat refine K ?_
 refine DA [] (s1) ?_
 try simp only [go_sem,seval]
 repeat refine K ?_
 try simp only [go_sem,seval,gu2,tu0,tu1]
 repeat refine K ?_
 by_cases hst:U.st=0
 ·try simp only [go_sem,seval,hst]
  repeat refine K ?_
  refine fz ?_; simp [yS,wL,wM,wV,-wEc]
 ·obtain ⟨e1,e2⟩:=l3.resolve_left hst
  try simp only [go_sem,seval,hst]
  repeat refine K ?_
  refine DA [] (s2) ?_
  try simp only [go_sem,seval]
  repeat refine K ?_
  try simp only [go_sem,seval,e1,e2,gu2,gv2,tu0,tv0,tu1,tv1]
  repeat refine K ?_
  refine fz ?_; simp [yS,wL,wM,wV,-wEc]
end Go.Sep
