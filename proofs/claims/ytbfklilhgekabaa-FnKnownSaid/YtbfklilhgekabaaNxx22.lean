/- Contracts of functions. -/
import Derived.Test.YtbfklilhgekabaaNxx20
import Derived.Test.YtbfklilhgekabaaNxx21
namespace Go.Sep
set_option maxHeartbeats 16000000
open Go.Proofs
set_option linter.unusedSimpArgs false
set_option linter.unusedVariables false
set_option maxRecDepth 100000
open Nat renaming reduceAdd → qA, reduceMul → qB, reduceEqDiff → qC, reduceBEq → qD
open Int renaming reduceToNat → qE, reduceEq → qF, reduceLT → qG, reduceLE → qH
open List renaming getD_eq_getElem?_getD → gD
def m475:MFn:=⟨136,[.t 2],kr [xF 2] (.seq (kr [xv 18 0,xc1 19 19 (.t 18)] (kF 19 [xT 2])) (kr [xv 21 0,xo 22 (.call 168 [true] [.t 21]),xv 20 22,xX 23 20 0,xX 24 20 1,xo 3 (.alloc [.nil,.nil]),xS 2 3 23,xv 4 24] (kr [xv 25 0,xo 26 (.call 476 [true] [.t 25]),xv 5 26] (kr [xv 27 5,xc1 28 291 (.t 27),xv 29 5,xc1 30 289 (.t 29),xv 6 28,xv 7 30] (kr [xm 32 2 3,xc1 33 24 (.t 32),xv 31 33,xX 34 31 0,xX 35 31 1,xo 8 (.alloc [.nil,.nil,.nil]),xS 3 8 34,xv 9 35] (.seq (kr [xv 36 9,xN 37 36,xv 38 37,zv 39 6 38,ze 40 39 38,zv 41 7 38,ze 42 41 38,xg 43 (.bin .neq (.t 40) (.t 42)) 38 false,xQ 44 38 43] (kF 44 [xF 2])) (.seq (kr [xI 10 0] (.blk 0 (.loop (.seq (kr [xv 45 10,xv 46 6,xe 47 46,bT 48 .lss 45 47] (kX 48 0)) (.seq (.blk 1 (kr [xI 11 0] (.blk 2 (.loop (.seq (kr [xv 51 11,bI 52 .lss 51 4] (kX 52 2)) (.seq (.blk 3 (.seq (.dreg (.take 0 (xv 55 6) (.take 1 (xv 56 10) (.take 2 (xD 57 1 55 56) (.take 3 (xl 58 57) (.take 4 (xv 59 11) (.take 5 (xD 60 2 58 59) (.take 6 (xm 61 2 60) (.take 7 (xv 62 7) (.take 8 (xv 63 10) (.take 9 (xD 64 1 62 63) (.take 10 (xl 65 64) (.only 11 [] (xv 66 11) (.only 12 [10,9,7,8] (xD 67 2 65 66) (.only 13 [12,10,9,7,8] (xm 68 2 67) (.only 14 [6,13,5,12,3,4,10,2,9,0,1,7,8] (xo 69 (.eqS true [false,true] (.t 61) (.t 68))) (.done))))))))))))))))) (kF 69 [xF 2]))) (xr [xv 53 11,bI 54 .add 53 1,xv 11 54]))))))) (xr [xv 49 10,bI 50 .add 49 1,xv 10 50])))))) (.seq (kr [xI 12 0] (.blk 4 (.loop (.seq (kr [xv 70 12,xv 71 4,xe 72 71,bT 73 .lss 70 72] (kX 73 4)) (.seq (.blk 5 (.seq (.dreg (.take 0 (xm 77 2 3) (.take 1 (xm 78 3 8) (.take 2 (xv 79 4) (.take 3 (xv 80 12) (.take 4 (xD 81 1 79 80) (.take 5 (xl 82 81) (.both 6 [0,1,5,4,2,3] (xc3 83 143 (.t 77) (.t 78) (.t 82)) (.take 7 (xv 76 83) (.take 8 (xX 84 76 0) (.take 9 (xX 85 76 1) (.only 10 [] (xo 13 (.alloc [.nil,.nil,.nil])) (.only 11 [0,1,2,3,4,5,7,8] (xS 3 13 84) (.only 12 [0,1,2,3,4,5,7,8,9] (xv 14 85) (.done))))))) 10 [] (xo 13 (.alloc [.nil,.nil,.nil])) (.only 6 [0,1,5,4,2,3] (xc3 83 143 (.t 77) (.t 78) (.t 82)) (.only 7 [6,0,1,5,4,2,3] (xv 76 83) (.take 8 (xX 84 76 0) (.take 9 (xX 85 76 1) (.only 11 [0,1,2,3,4,5,8] (xS 3 13 84) (.only 12 [0,1,2,3,4,5,8,9] (xv 14 85) (.done))))))))))))))) (.seq (kr [xv 86 14,bI 87 .eql 86 0] (.cond 87 (xr [xm 88 3 13,xS 3 8 88]) (.skip))) (.seq (.dreg (.take 0 (xa 89 0 8) (.take 1 (xl 90 89) (.take 2 (xv 91 4) (.take 3 (xv 92 12) (.take 4 (xD 93 1 91 92) (.take 5 (xl 94 93) (.take 6 (xD 95 3 90 94) (.take 7 (xm 96 3 95) (.only 8 [] (xo 15 (.alloc [.int .i64 0,.nil,.int .i64 0])) (.only 9 [0,1,2,3,4,5,6,7] (xS 3 15 96) (.done)))))))))))) (.seq (.dreg (.take 0 (xa 97 1 3) (.take 1 (xl 98 97) (.take 2 (xv 99 4) (.only 3 [] (xv 100 12) (.only 4 [2] (xD 101 1 99 100) (.only 5 [4,2] (xl 102 101) (.only 6 [1,5,0,4,2] (xD 103 1 98 102) (.only 7 [6,1,5,0,4,2] (xl 104 103) (.only 8 [7,6,1,5,0,4,2] (xc1 105 291 (.t 104)) (.only 9 [0,1,2] (xv 16 105) (.done)))))))))))) (kr [xI 17 0] (.blk 6 (.loop (.seq (kr [xv 106 17,bI 107 .lss 106 4] (kX 107 6)) (.seq (.blk 7 (.seq (.dreg (.take 0 (xv 110 16) (.take 1 (xa 111 0 15) (.take 2 (xl 112 111) (.take 3 (xD 113 1 110 112) (.take 4 (xl 114 113) (.only 5 [] (xv 115 17) (.only 6 [4,3,0,2,1] (xD 116 2 114 115) (.only 7 [6,4,3,0,2,1] (xa 117 0 116) (.only 8 [7,6,4,3,0,2,1] (xl 118 117) (.only 9 [8,7,6,4,3,0,2,1] (xv 119 118) (.take 10 (yv 120 16 119) (.take 11 (ya 121 0 15 119) (.take 12 (yl 122 1 121 119) (.take 13 (xg 123 (.iad 1 (.t 120) (.t 122)) 119 true) (.take 14 (yl 124 1 123 119) (.take 15 (yv 125 17 119) (.take 16 (xg 126 (.iad 2 (.t 124) (.t 125)) 119 true) (.take 17 (ya 127 1 126 119) (.take 18 (yl 128 1 127 119) (.take 19 (ya 129 1 15 119) (.take 20 (yl 130 1 129 119) (.only 21 [9,8,7,6,4,3,0,2,1] (yv 131 17 119) (.only 22 [9,20,8,19,7,6,4,3,0,2,1] (xg 132 (.iad 1 (.t 130) (.t 131)) 119 true) (.only 23 [9,22,8,20,7,19,6,4,3,0,2,1] (yl 133 1 132 119) (.only 24 [9,18,23,8,17,22,7,16,20,6,14,15,19,4,13,3,10,12,0,2,11,1] (xg 134 (.bin .neq (.t 128) (.t 133)) 119 true) (.only 25 [9,24,8,18,23,7,17,22,6,16,20,4,14,15,19,3,13,0,2,10,12,1,11] (xP 135 119 134) (.done)))))))))))))))))))))))))))) (kF 135 [xF 2]))) (xr [xv 108 17,bI 109 .add 108 1,xv 17 109]))))))))))) (xr [xv 74 12,bI 75 .add 74 1,xv 12 75])))))) (kR [xT 2])))))))))⟩
theorem qDu :∀(t:List (Nat×AV)) (n:Nat),qU t n=.any∨∃x∈t,x.1=n∧qU t n=x.2
 | [],n=>.inl rfl
 | (k,v)::t,n=>by
  by_cases h:n=k
  ·subst h
   exact .inr ⟨(n,v),by simp,rfl,by simp [qU]⟩
  ·have e:qU ((k,v)::t) n=qU t n:=by simp [qU,h]
   rcases qDu t n with h2 | ⟨x,h2,h3,h4⟩
   ·exact .inl (e.trans h2)
   ·exact .inr ⟨x,List.mem_cons_of_mem _ h2,h3,e.trans h4⟩
theorem Sub.temps {t t':List (Nat×AV)} {h:wO} {nx nx':Nat} (hn:10≤nx') (hb:HB h nx') (ht :∀x∈t',qU t x.1=x.2∧bnd (· < nx') x.2):Sub (.mk t h nx) (.mk t' h nx'):=by
 rintro B a w ⟨h1,h2,h3,h4,φ,Lf,hl⟩
 refine ⟨h1,h2,hb,fun n=>?_,φ,Lf,hl.ok,fun n=>?_,hl.φ0,hn⟩
 ·rcases qDu t' n with e | ⟨x,hx,e1,e2⟩
  ·rw [e]; simp [bnd]
  ·rw [e2]; exact (ht x hx).2
 ·rcases qDu t' n with e | ⟨x,hx,e1,e2⟩
  ·rw [e]; simp [RV]
  ·rw [e2,←(ht x hx).1,e1]; exact hl.tm n
theorem oL {P:Program} {num:Nat→Nat} {fin:AS→Prop} {ι:Type} (tt:ι→List (Nat×AV)) (good:ι→Prop) (μ:ι→Nat) (i0:ι) {a:bG} {k:List It} {t:List (Nat×AV)} {h:wO} {nx:Nat} (h0:good i0) (hn:10≤nx)
  (ht :∀x∈tt i0,qU t x.1=x.2∧bnd (· < nx) x.2) (hb:HB h nx)
  (step :∀i,good i→vc P num fin (.code a::.stop (qW3 (fun i=>.mk (tt i) h nx) good μ (μ i))::k) (.mk (tt i) h nx)):qGx P num fin a k (.mk t h nx) :=
 wM (fun i=>.mk (tt i) h nx) good μ i0 h0 (Sub.temps hn hb ht) step
theorem KnI.tells {p:yM} {s:qW} (h:KnI p s) {i:Nat} (hi:i<s.ths.length):(s.ths.getD i default).at_.toNat<(dA (p.bods.getD i [])).length∧0≤(s.ths.getD i default).at_∧(s.ths.getD i default).regs.length=4∧
  ∀r:Nat,r<4→(((dA (p.bods.getD i [])).getD (s.ths.getD i default).at_.toNat []).getD r default).is_=true→(((dA (p.bods.getD i [])).getD (s.ths.getD i default).at_.toNat []).getD r default).v=(s.ths.getD i default).regs.getD r 0:=by
 obtain ⟨k1,k2⟩:=h.kn i hi
 have hb:wV (p.bods.getD i []) 3=true:=qEv h.ok hi
 have hs:=(yU p s).1 h.ok
 have ht:=hs.2.2.2.2.1 i hi
 unfold vQ at ht
 simp only [Bool.and_eq_true,decide_eq_true_eq,qK] at ht
 have hL:=dW _ hb
 have hlen:(dA (p.bods.getD i [])).length=(p.bods.getD i []).length:=by
  unfold dA bO
  rw [if_pos hb]
  unfold bJ
  rw [List.length_map]
  exact hL.inv.len
 have hat:(s.ths.getD i default).at_.toNat<(p.bods.getD i []).length:=by omega
 have hfill:=qT4 hb hat k1
 have he:(dA (p.bods.getD i [])).getD (s.ths.getD i default).at_.toNat []=kat (cE (p.bods.getD i [])) (s.ths.getD i default).at_.toNat:=by
  unfold dA bO
  rw [if_pos hb]
  exact hfill
 refine ⟨by omega,by omega,by omega,fun r hr hi2=>?_⟩
 rw [he] at hi2⊢
 exact k2 r hr hi2
theorem qVx (code:List Int):wJ Try.prog num 475 [.sl .fz 1 (bys code)] [] (.bool true):=by
 refine EN m475 Try.func4 ?_
 unfold m475
 simp only [go_sem,seval]
 repeat refine K ?_
 refine CA [] (qW2 code) ?_
 try simp only [go_sem,seval]
 repeat refine K ?_
 by_cases hbig:(1048576:Int)<code.length
 ·try simp only [go_sem,seval,hbig]
  repeat refine K ?_
  refine fz ?_; simp [jD,wN,wP,yA,-List.drop_one]
 have hb:code.length<2^62:=by omega
 try simp only [go_sem,seval,hbig]
 repeat refine K ?_
 refine CA [] (qEd code hb) ?_
 try simp only [go_sem,seval]
 repeat refine K ?_
 obtain ⟨hp,hol,hox⟩:=qQ1 code
 generalize kW code=w at *
 obtain ⟨p,order⟩:=w
 simp only at hp hol hox⊢
 have hpp:=qPs hp
 have csp:=qAk p hpp.caps hpp.bods hpp.body'
 have np:(uR p).2=true:=by simp [uR,hp]
 rw [np] at csp
 have hI0:=KnI.new hp
 generalize (uR p).1=s0 at *
 try simp only [go_sem,seval]
 repeat refine K ?_
 refine CA [] (qEe code hb) ?_
 try simp only [go_sem,seval]
 repeat refine K ?_
 have hll:=qEx code (mZ code)
 generalize lT code (mZ code)=L at hll
 obtain ⟨L,e⟩:=L
 simp only at hll⊢
 have ki:=zO L (cE L) (by omega) (fun h=>dW L h)
 have ks:=qD0 L (cE L) (by omega) (fun h=>dW L h)
 have kl:=qE1 L
 have ka:=fA L
 unfold dA at kl ka
 generalize bO L (cE L)=A at *
 try simp only [go_sem,seval]
 repeat refine K ?_
 refine CA [] (ki) ?_
 try simp only [go_sem,seval]
 repeat refine K ?_
 try simp only [go_sem,seval]
 repeat refine K ?_
 refine CA [] (ks) ?_
 try simp only [go_sem,seval]
 repeat refine K ?_
 try simp only [go_sem,seval]
 repeat refine K ?_
 refine CA [] (csp) ?_
 try simp only [go_sem,seval]
 repeat refine K ?_
 try simp only [go_sem,seval]
 repeat refine K ?_
 refine wM (ι:=Nat) (fun i=>.mk [(3,.ptr 13 0 0),(4,.ns 12 0 order.length),(6,.ns 15 0 A.length),(7,.ns 16 0 A.length),(8,.ptr 20 0 0),(10,.int .i64 i)] [(13,2,[zH .own p]),(12,1,wT order),(15,1,qY .own A),(16,1,qY .own A),(20,3,[vY .own s0])] 21) (fun i=>i≤A.length) (fun i=>A.length-i) 0 (by simp) ?_ ?_
 ·refine Sub.trans (Sub.fold1 13 0 10 rfl (by simp [-gD]<;>omega) rfl (by decide) (by decide) rfl) ?_
  simp only [fS,fS3,qA,qC]
  refine Sub.trans (Sub.fold1 13 1 11 rfl (by simp [-gD]<;>omega) rfl (by decide) (by decide) rfl) ?_
  simp only [fS,fS3,qA,qC]
  refine Sub.trans (Sub.fold1 20 0 17 rfl (by simp [-gD]<;>omega) rfl (by decide) (by decide) rfl) ?_
  simp only [fS,fS3,qA,qC]
  refine Sub.trans (Sub.fold1 20 1 18 rfl (by simp [-gD]<;>omega) rfl (by decide) (by decide) rfl) ?_
  simp only [fS,fS3,qA,qC]
  refine Sub.trans (Sub.fold1 20 2 19 rfl (by simp [-gD]<;>omega) rfl (by decide) (by decide) rfl) ?_
  simp only [fS,fS3,qA,qC]
  refine Sub.shape [] id (by omega) ?_ ?_ ?_ ?_<;>simp [qR]
 ·intro i hi
  simp only [go_sem,seval]
  refine qX (fun hc=>?_) (fun hc=>?_)
  ·simp only [decide_eq_true_eq] at hc
   have hil:i<A.length:=by omega
   have hg:=vM .own A i hil
   have hgs :∀r,((qY .own A).set i r).getD i []=r:=fun r=>wW _ _ _ _ (by rw [yP]; omega)
   have h4:=ka i hil
   have hAi:(qY .own A).set i [.sl .own 2 (wK (A.getD i []))]=qY .own A:=by rw [←hg]; exact yV _ _ _ (by rw [yP]; exact hil)
   simp only [go_sem,seval]
   repeat refine K ?_
   refine wM (ι:=Nat) (fun r=>.mk [(3,.ptr 13 0 0),(4,.ns 12 0 order.length),(6,.ns 15 0 A.length),(7,.ns 16 0 A.length),(8,.ptr 20 0 0),(10,.int .i64 i),(11,.int .i64 r)] [(13,2,[zH .own p]),(12,1,wT order),(15,1,qY .own A),(16,1,qY .own A),(20,3,[vY .own s0])] 21) (fun r=>r≤4) (fun r=>4-r) 0 (by simp) ?_ ?_
   ·refine Sub.shape [] id (by omega) ?_ ?_ ?_ ?_<;>simp [qR]
   ·intro r hr
    simp only [go_sem,seval]
    refine qX (fun hc2=>?_) (fun hc2=>?_)
    ·simp only [decide_eq_true_eq] at hc2
     have hr4:r<(A.getD i []).length:=by omega
     have hg2:=jA (A.getD i []) r hr4
     simp only [go_sem,seval,hg,hgs,hg2,wA (i:=r) (by omega)]
     repeat refine K ?_
     refine qT (r+1) ?_ (by omega) (by omega)
     refine Sub.trans (Sub.foldAt 15 0 21 rfl (by simp [-gD]<;>omega) rfl (by decide) (by decide) rfl (by simp<;>omega)) ?_
     simp only [fS,fS3,qA,qC,hAi]
     refine Sub.trans (Sub.foldAt 16 0 22 rfl (by simp [-gD]<;>omega) rfl (by decide) (by decide) rfl (by simp<;>omega)) ?_
     simp only [fS,fS3,qA,qC,hAi]
     refine Sub.shape [] id (by omega) ?_ ?_ ?_ ?_<;>simp [qR]
    ·simp only [decide_eq_false_iff_not] at hc2
     simp only [go_sem,seval,wA (i:=i) (by omega)]
     repeat refine K ?_
     refine qT (i+1) ?_ hil (by omega)
     refine Sub.shape [] id (by omega) ?_ ?_ ?_ ?_<;>simp [qR]
  ·simp only [decide_eq_false_iff_not] at hc
   simp only [go_sem,seval]
   repeat refine K ?_
   refine wM (ι:=Nat×qW) (fun q=>.mk [(3,.ptr 13 0 0),(4,.ns 12 0 order.length),(8,.ptr 20 0 0),(12,.int .i64 q.1)] [(13,2,[zH .own p]),(12,1,wT order),(20,3,[vY .own q.2])] 21) (fun q=>q.1≤order.length∧KnI p q.2) (fun q=>order.length-q.1) (0,s0) ⟨by simp,hI0⟩ ?_ ?_
   ·refine Sub.shape [] id (by omega) ?_ ?_ ?_ ?_<;>simp [qR]
   ·rintro ⟨i,s⟩ ⟨hi,hI⟩
    simp only at hi hI⊢
    simp only [go_sem,seval]
    refine qX (fun hc2=>?_) (fun hc2=>?_)
    ·simp only [decide_eq_true_eq] at hc2
     have hil:i<order.length:=by omega
     have hgo:=qJ order i hil
     obtain ⟨w0,w1⟩:=hox _ (yR order i 0 hil)
     have hS:=qRx hI.ok
     have cst:=sV p s (order.getD i 0) hpp hS
     have hI2:=hI.step (order.getD i 0)
     have hsp:dN p s (order.getD i 0)=wB p s (order.getD i 0):=by unfold dN; rw [if_pos hI.ok]
     rw [hsp] at cst
     clear hsp
     generalize wB p s (order.getD i 0)=R at *
     obtain ⟨s2,how⟩:=R
     simp only at cst hI2
     generalize order.getD i 0=who at *
     obtain ⟨wn,rfl⟩:=Int.eq_ofNat_of_zero_le w0
     simp only [go_sem,seval,hgo]
     repeat refine K ?_
     refine ⟨?_,?_⟩
     ·refine DA [] (cst) ?_
      try simp only [go_sem,seval]
      repeat refine K ?_
      by_cases hh:how=0
      ·try simp only [go_sem,seval,hh]
       repeat refine K ?_
       have hlt:wn<s2.ths.length:=by have:=((yU p s2).1 hI2.ok).2.1; omega
       have hlt2:((wn:Nat):Int)<(s2.ths.length:Nat):=by omega
       have hlb:wn<p.bods.length:=by omega
       obtain ⟨a1,a2,a3,a4⟩:=hI2.tells hlt
       have hgt:=qP .own s2.ths wn hlt
       have gts :∀r,((wR .own s2.ths).set wn r).getD wn []=r:=fun r=>wW _ _ _ _ (by rw [yZ]; omega)
       have hgb:=qZ .own p.bods wn hlb
       have gbs :∀r,((yY .own p.bods).set wn r).getD wn []=r:=fun r=>wW _ _ _ _ (by rw [vJ]; omega)
       have htT:(wR .own s2.ths).set wn [.int .i64 (s2.ths.getD wn default).at_,.sl .own 1 (wT (s2.ths.getD wn default).regs),.int .i64 (s2.ths.getD wn default).st]=wR .own s2.ths:=by rw [←hgt]; exact yV _ _ _ (by rw [yZ]; exact hlt)
       have hbB:(yY .own p.bods).set wn [.sl .own 5 (vO (p.bods.getD wn []))]=yY .own p.bods:=by rw [←hgb]; exact yV _ _ _ (by rw [vJ]; exact hlb)
       have hbl:=hpp.body _ (yR p.bods wn [] hlb)
       have ck:=zO (p.bods.getD wn []) (cE (p.bods.getD wn [])) (by omega) (fun h=>dW _ h)
       have kl:=fA (p.bods.getD wn [])
       unfold dA at a1 a4 kl
       generalize bO (p.bods.getD wn []) (cE (p.bods.getD wn []))=KB at *
       generalize p.bods.getD wn []=B at *
       generalize s2.ths.getD wn default=t at *
       try simp only [go_sem,seval,hgo,hlt,hlt2,hlb,w1,hgt,gts,hgb,gbs]
       repeat refine K ?_
       refine DA [] (ck) ?_
       try simp only [go_sem,seval]
       repeat refine K ?_
       try simp only [go_sem,seval]
       repeat refine K ?_
       try simp only [go_sem,seval]
       repeat refine K ?_
       have hkg:=vM .own KB t.at_.toNat a1
       have hks :∀r,((qY .own KB).set t.at_.toNat r).getD t.at_.toNat []=r:=fun r=>wW _ _ _ _ (by rw [yP]; omega)
       have hkB:(qY .own KB).set t.at_.toNat [.sl .own 2 (wK (KB.getD t.at_.toNat []))]=qY .own KB:=by rw [←hkg]; exact yV _ _ _ (by rw [yP]; exact a1)
       have k4:(KB.getD t.at_.toNat []).length=4:=kl _ a1
       have ha2:t.at_<(KB.length:Nat):=by omega
       refine oL (ι:=Nat) (fun r=>[(3,.ptr 13 0 0),(4,.ns 12 0 order.length),(8,.ptr 20 0 0),(12,.int .i64 i),(15,.ptr 31 0 0),(16,.ns 33 0 KB.length),(17,.int .i64 r)]) (fun r=>r≤4) (fun r=>4-r) 0 (by simp) (by omega) (by simp [qU,bnd]) ?_ ?_
       ·repeat' (first | exact (dT _).2 trivial | refine bV _ _ _ _ ?_ (by omega) ?_)
        all_goals (first | (simp [yL,yQ,bnd]; done) | (refine dD ?_ _ ?_<;>simp [yL,yQ,bnd]))
       ·intro r hr
        simp only [go_sem,seval]
        refine qX (fun hc3=>?_) (fun hc3=>?_)
        ·simp only [decide_eq_true_eq] at hc3
         have hr4:r<(KB.getD t.at_.toNat []).length:=by omega
         have hkr:=jA (KB.getD t.at_.toNat []) r hr4
         have hrr:=qJ t.regs r (by omega)
         have hh4:=a4 r (by omega)
         generalize (KB.getD t.at_.toNat []).getD r default=kn at *
         cases hi3:kn.is_
         ·simp only [go_sem,seval,hkg,hks,hkr,hi3,a1,a2,ha2,wA (i:=r) (by omega)]
          repeat refine K ?_
          refine qT (r+1) ?_ (by omega) (by omega)
          refine Sub.trans (Sub.foldAt 33 0 34 rfl (by simp [-gD]<;>omega) rfl (by decide) (by decide) rfl (by simp<;>omega)) ?_
          simp only [fS,fS3,qA,qC,hkB]
          refine Sub.temps (by omega) ?_ (by simp [qU,bnd])
          repeat' (first | exact (dT _).2 trivial | refine bV _ _ _ _ ?_ (by omega) ?_)
          all_goals (first | (simp [yL,yQ,bnd]; done) | (refine dD ?_ _ ?_<;>simp [yL,yQ,bnd]))
         ·have hv:=hh4 hi3
          simp only [go_sem,seval,hkg,hks,hkr,hi3,hv,hrr,a1,a2,ha2,wA (i:=r) (by omega)]
          repeat refine K ?_
          refine qT (r+1) ?_ (by omega) (by omega)
          refine Sub.trans (Sub.foldAt 33 0 34 rfl (by simp [-gD]<;>omega) rfl (by decide) (by decide) rfl (by simp<;>omega)) ?_
          simp only [fS,fS3,qA,qC,hkB]
          refine Sub.temps (by omega) ?_ (by simp [qU,bnd])
          repeat' (first | exact (dT _).2 trivial | refine bV _ _ _ _ ?_ (by omega) ?_)
          all_goals (first | (simp [yL,yQ,bnd]; done) | (refine dD ?_ _ ?_<;>simp [yL,yQ,bnd]))
        ·simp only [go_sem,seval,wA (i:=i) (by omega)]
         repeat refine K ?_
         refine qT (i+1,s2) ?_ ⟨hil,hI2⟩ (by simp only; omega)
         refine Sub.trans (Sub.foldAt 22 0 32 rfl (by simp [-gD]<;>omega) rfl (by decide) (by decide) rfl (by simp<;>omega)) ?_
         simp only [fS,fS3,qA,qC,hbB]
         refine Sub.trans (Sub.fold1 13 0 21 rfl (by simp [-gD]<;>omega) rfl (by decide) (by decide) rfl) ?_
         simp only [fS,fS3,qA,qC]
         refine Sub.trans (Sub.fold1 13 1 22 rfl (by simp [-gD]<;>omega) rfl (by decide) (by decide) rfl) ?_
         simp only [fS,fS3,qA,qC]
         refine Sub.trans (Sub.foldAt 26 1 30 rfl (by simp [-gD]<;>omega) rfl (by decide) (by decide) rfl (by simp<;>omega)) ?_
         simp only [fS,fS3,qA,qC,htT]
         refine Sub.trans (Sub.fold1 20 0 26 rfl (by simp [-gD]<;>omega) rfl (by decide) (by decide) rfl) ?_
         simp only [fS,fS3,qA,qC]
         refine Sub.trans (Sub.fold1 20 1 27 rfl (by simp [-gD]<;>omega) rfl (by decide) (by decide) rfl) ?_
         simp only [fS,fS3,qA,qC]
         refine Sub.trans (Sub.fold1 20 2 28 rfl (by simp [-gD]<;>omega) rfl (by decide) (by decide) rfl) ?_
         simp only [fS,fS3,qA,qC]
         refine Sub.shape [] id (by omega) ?_ ?_ ?_ ?_<;>simp [qR]
      ·try simp only [go_sem,seval,hh]
       repeat refine K ?_
       have hlt:wn<s.ths.length:=by have:=((yU p s).1 hI.ok).2.1; omega
       have hlt2:((wn:Nat):Int)<(s.ths.length:Nat):=by omega
       have hlb:wn<p.bods.length:=by omega
       obtain ⟨a1,a2,a3,a4⟩:=hI.tells hlt
       have hgt:=qP .own s.ths wn hlt
       have gts :∀r,((wR .own s.ths).set wn r).getD wn []=r:=fun r=>wW _ _ _ _ (by rw [yZ]; omega)
       have hgb:=qZ .own p.bods wn hlb
       have gbs :∀r,((yY .own p.bods).set wn r).getD wn []=r:=fun r=>wW _ _ _ _ (by rw [vJ]; omega)
       have htT:(wR .own s.ths).set wn [.int .i64 (s.ths.getD wn default).at_,.sl .own 1 (wT (s.ths.getD wn default).regs),.int .i64 (s.ths.getD wn default).st]=wR .own s.ths:=by rw [←hgt]; exact yV _ _ _ (by rw [yZ]; exact hlt)
       have hbB:(yY .own p.bods).set wn [.sl .own 5 (vO (p.bods.getD wn []))]=yY .own p.bods:=by rw [←hgb]; exact yV _ _ _ (by rw [vJ]; exact hlb)
       have hbl:=hpp.body _ (yR p.bods wn [] hlb)
       have ck:=zO (p.bods.getD wn []) (cE (p.bods.getD wn [])) (by omega) (fun h=>dW _ h)
       have kl:=fA (p.bods.getD wn [])
       unfold dA at a1 a4 kl
       generalize bO (p.bods.getD wn []) (cE (p.bods.getD wn []))=KB at *
       generalize p.bods.getD wn []=B at *
       generalize s.ths.getD wn default=t at *
       try simp only [go_sem,seval,hgo,hlt,hlt2,hlb,w1,hgt,gts,hgb,gbs]
       repeat refine K ?_
       refine DA [] (ck) ?_
       try simp only [go_sem,seval]
       repeat refine K ?_
       try simp only [go_sem,seval]
       repeat refine K ?_
       try simp only [go_sem,seval]
       repeat refine K ?_
       have hkg:=vM .own KB t.at_.toNat a1
       have hks :∀r,((qY .own KB).set t.at_.toNat r).getD t.at_.toNat []=r:=fun r=>wW _ _ _ _ (by rw [yP]; omega)
       have hkB:(qY .own KB).set t.at_.toNat [.sl .own 2 (wK (KB.getD t.at_.toNat []))]=qY .own KB:=by rw [←hkg]; exact yV _ _ _ (by rw [yP]; exact a1)
       have k4:(KB.getD t.at_.toNat []).length=4:=kl _ a1
       have ha2:t.at_<(KB.length:Nat):=by omega
       refine oL (ι:=Nat) (fun r=>[(3,.ptr 13 0 0),(4,.ns 12 0 order.length),(8,.ptr 20 0 0),(12,.int .i64 i),(15,.ptr 31 0 0),(16,.ns 33 0 KB.length),(17,.int .i64 r)]) (fun r=>r≤4) (fun r=>4-r) 0 (by simp) (by omega) (by simp [qU,bnd]) ?_ ?_
       ·repeat' (first | exact (dT _).2 trivial | refine bV _ _ _ _ ?_ (by omega) ?_)
        all_goals (first | (simp [yL,yQ,bnd]; done) | (refine dD ?_ _ ?_<;>simp [yL,yQ,bnd]))
       ·intro r hr
        simp only [go_sem,seval]
        refine qX (fun hc3=>?_) (fun hc3=>?_)
        ·simp only [decide_eq_true_eq] at hc3
         have hr4:r<(KB.getD t.at_.toNat []).length:=by omega
         have hkr:=jA (KB.getD t.at_.toNat []) r hr4
         have hrr:=qJ t.regs r (by omega)
         have hh4:=a4 r (by omega)
         generalize (KB.getD t.at_.toNat []).getD r default=kn at *
         cases hi3:kn.is_
         ·simp only [go_sem,seval,hkg,hks,hkr,hi3,a1,a2,ha2,wA (i:=r) (by omega)]
          repeat refine K ?_
          refine qT (r+1) ?_ (by omega) (by omega)
          refine Sub.trans (Sub.foldAt 33 0 34 rfl (by simp [-gD]<;>omega) rfl (by decide) (by decide) rfl (by simp<;>omega)) ?_
          simp only [fS,fS3,qA,qC,hkB]
          refine Sub.temps (by omega) ?_ (by simp [qU,bnd])
          repeat' (first | exact (dT _).2 trivial | refine bV _ _ _ _ ?_ (by omega) ?_)
          all_goals (first | (simp [yL,yQ,bnd]; done) | (refine dD ?_ _ ?_<;>simp [yL,yQ,bnd]))
         ·have hv:=hh4 hi3
          simp only [go_sem,seval,hkg,hks,hkr,hi3,hv,hrr,a1,a2,ha2,wA (i:=r) (by omega)]
          repeat refine K ?_
          refine qT (r+1) ?_ (by omega) (by omega)
          refine Sub.trans (Sub.foldAt 33 0 34 rfl (by simp [-gD]<;>omega) rfl (by decide) (by decide) rfl (by simp<;>omega)) ?_
          simp only [fS,fS3,qA,qC,hkB]
          refine Sub.temps (by omega) ?_ (by simp [qU,bnd])
          repeat' (first | exact (dT _).2 trivial | refine bV _ _ _ _ ?_ (by omega) ?_)
          all_goals (first | (simp [yL,yQ,bnd]; done) | (refine dD ?_ _ ?_<;>simp [yL,yQ,bnd]))
        ·simp only [go_sem,seval,wA (i:=i) (by omega)]
         repeat refine K ?_
         refine qT (i+1,s) ?_ ⟨hil,hI⟩ (by simp only; omega)
         refine Sub.trans (Sub.foldAt 22 0 32 rfl (by simp [-gD]<;>omega) rfl (by decide) (by decide) rfl (by simp<;>omega)) ?_
         simp only [fS,fS3,qA,qC,hbB]
         refine Sub.trans (Sub.fold1 13 0 21 rfl (by simp [-gD]<;>omega) rfl (by decide) (by decide) rfl) ?_
         simp only [fS,fS3,qA,qC]
         refine Sub.trans (Sub.fold1 13 1 22 rfl (by simp [-gD]<;>omega) rfl (by decide) (by decide) rfl) ?_
         simp only [fS,fS3,qA,qC]
         refine Sub.trans (Sub.foldAt 23 1 30 rfl (by simp [-gD]<;>omega) rfl (by decide) (by decide) rfl (by simp<;>omega)) ?_
         simp only [fS,fS3,qA,qC,htT]
         refine Sub.trans (Sub.fold1 20 0 23 rfl (by simp [-gD]<;>omega) rfl (by decide) (by decide) rfl) ?_
         simp only [fS,fS3,qA,qC]
         refine Sub.trans (Sub.fold1 20 1 24 rfl (by simp [-gD]<;>omega) rfl (by decide) (by decide) rfl) ?_
         simp only [fS,fS3,qA,qC]
         refine Sub.trans (Sub.fold1 20 2 25 rfl (by simp [-gD]<;>omega) rfl (by decide) (by decide) rfl) ?_
         simp only [fS,fS3,qA,qC]
         refine Sub.shape [] id (by omega) ?_ ?_ ?_ ?_<;>simp [qR]
     ·try simp only [go_sem,seval]
      repeat refine K ?_
      refine DA [] (cst) ?_
      try simp only [go_sem,seval]
      repeat refine K ?_
      by_cases hh:how=0
      ·try simp only [go_sem,seval,hh]
       repeat refine K ?_
       have hlt:wn<s2.ths.length:=by have:=((yU p s2).1 hI2.ok).2.1; omega
       have hlt2:((wn:Nat):Int)<(s2.ths.length:Nat):=by omega
       have hlb:wn<p.bods.length:=by omega
       obtain ⟨a1,a2,a3,a4⟩:=hI2.tells hlt
       have hgt:=qP .own s2.ths wn hlt
       have gts :∀r,((wR .own s2.ths).set wn r).getD wn []=r:=fun r=>wW _ _ _ _ (by rw [yZ]; omega)
       have hgb:=qZ .own p.bods wn hlb
       have gbs :∀r,((yY .own p.bods).set wn r).getD wn []=r:=fun r=>wW _ _ _ _ (by rw [vJ]; omega)
       have htT:(wR .own s2.ths).set wn [.int .i64 (s2.ths.getD wn default).at_,.sl .own 1 (wT (s2.ths.getD wn default).regs),.int .i64 (s2.ths.getD wn default).st]=wR .own s2.ths:=by rw [←hgt]; exact yV _ _ _ (by rw [yZ]; exact hlt)
       have hbB:(yY .own p.bods).set wn [.sl .own 5 (vO (p.bods.getD wn []))]=yY .own p.bods:=by rw [←hgb]; exact yV _ _ _ (by rw [vJ]; exact hlb)
       have hbl:=hpp.body _ (yR p.bods wn [] hlb)
       have ck:=zO (p.bods.getD wn []) (cE (p.bods.getD wn [])) (by omega) (fun h=>dW _ h)
       have kl:=fA (p.bods.getD wn [])
       unfold dA at a1 a4 kl
       generalize bO (p.bods.getD wn []) (cE (p.bods.getD wn []))=KB at *
       generalize p.bods.getD wn []=B at *
       generalize s2.ths.getD wn default=t at *
       try simp only [go_sem,seval,hgo,hlt,hlt2,hlb,w1,hgt,gts,hgb,gbs]
       repeat refine K ?_
       refine DA [] (ck) ?_
       try simp only [go_sem,seval]
       repeat refine K ?_
       try simp only [go_sem,seval]
       repeat refine K ?_
       try simp only [go_sem,seval]
       repeat refine K ?_
       have hkg:=vM .own KB t.at_.toNat a1
       have hks :∀r,((qY .own KB).set t.at_.toNat r).getD t.at_.toNat []=r:=fun r=>wW _ _ _ _ (by rw [yP]; omega)
       have hkB:(qY .own KB).set t.at_.toNat [.sl .own 2 (wK (KB.getD t.at_.toNat []))]=qY .own KB:=by rw [←hkg]; exact yV _ _ _ (by rw [yP]; exact a1)
       have k4:(KB.getD t.at_.toNat []).length=4:=kl _ a1
       have ha2:t.at_<(KB.length:Nat):=by omega
       refine oL (ι:=Nat) (fun r=>[(3,.ptr 13 0 0),(4,.ns 12 0 order.length),(8,.ptr 20 0 0),(12,.int .i64 i),(15,.ptr 31 0 0),(16,.ns 33 0 KB.length),(17,.int .i64 r)]) (fun r=>r≤4) (fun r=>4-r) 0 (by simp) (by omega) (by simp [qU,bnd]) ?_ ?_
       ·repeat' (first | exact (dT _).2 trivial | refine bV _ _ _ _ ?_ (by omega) ?_)
        all_goals (first | (simp [yL,yQ,bnd]; done) | (refine dD ?_ _ ?_<;>simp [yL,yQ,bnd]))
       ·intro r hr
        simp only [go_sem,seval]
        refine qX (fun hc3=>?_) (fun hc3=>?_)
        ·simp only [decide_eq_true_eq] at hc3
         have hr4:r<(KB.getD t.at_.toNat []).length:=by omega
         have hkr:=jA (KB.getD t.at_.toNat []) r hr4
         have hrr:=qJ t.regs r (by omega)
         have hh4:=a4 r (by omega)
         generalize (KB.getD t.at_.toNat []).getD r default=kn at *
         cases hi3:kn.is_
         ·simp only [go_sem,seval,hkg,hks,hkr,hi3,a1,a2,ha2,wA (i:=r) (by omega)]
          repeat refine K ?_
          refine qT (r+1) ?_ (by omega) (by omega)
          refine Sub.trans (Sub.foldAt 33 0 34 rfl (by simp [-gD]<;>omega) rfl (by decide) (by decide) rfl (by simp<;>omega)) ?_
          simp only [fS,fS3,qA,qC,hkB]
          refine Sub.temps (by omega) ?_ (by simp [qU,bnd])
          repeat' (first | exact (dT _).2 trivial | refine bV _ _ _ _ ?_ (by omega) ?_)
          all_goals (first | (simp [yL,yQ,bnd]; done) | (refine dD ?_ _ ?_<;>simp [yL,yQ,bnd]))
         ·have hv:=hh4 hi3
          simp only [go_sem,seval,hkg,hks,hkr,hi3,hv,hrr,a1,a2,ha2,wA (i:=r) (by omega)]
          repeat refine K ?_
          refine qT (r+1) ?_ (by omega) (by omega)
          refine Sub.trans (Sub.foldAt 33 0 34 rfl (by simp [-gD]<;>omega) rfl (by decide) (by decide) rfl (by simp<;>omega)) ?_
          simp only [fS,fS3,qA,qC,hkB]
          refine Sub.temps (by omega) ?_ (by simp [qU,bnd])
          repeat' (first | exact (dT _).2 trivial | refine bV _ _ _ _ ?_ (by omega) ?_)
          all_goals (first | (simp [yL,yQ,bnd]; done) | (refine dD ?_ _ ?_<;>simp [yL,yQ,bnd]))
        ·simp only [go_sem,seval,wA (i:=i) (by omega)]
         repeat refine K ?_
         refine qT (i+1,s2) ?_ ⟨hil,hI2⟩ (by simp only; omega)
         refine Sub.trans (Sub.foldAt 22 0 32 rfl (by simp [-gD]<;>omega) rfl (by decide) (by decide) rfl (by simp<;>omega)) ?_
         simp only [fS,fS3,qA,qC,hbB]
         refine Sub.trans (Sub.fold1 13 0 21 rfl (by simp [-gD]<;>omega) rfl (by decide) (by decide) rfl) ?_
         simp only [fS,fS3,qA,qC]
         refine Sub.trans (Sub.fold1 13 1 22 rfl (by simp [-gD]<;>omega) rfl (by decide) (by decide) rfl) ?_
         simp only [fS,fS3,qA,qC]
         refine Sub.trans (Sub.foldAt 27 1 30 rfl (by simp [-gD]<;>omega) rfl (by decide) (by decide) rfl (by simp<;>omega)) ?_
         simp only [fS,fS3,qA,qC,htT]
         refine Sub.trans (Sub.fold1 20 0 27 rfl (by simp [-gD]<;>omega) rfl (by decide) (by decide) rfl) ?_
         simp only [fS,fS3,qA,qC]
         refine Sub.trans (Sub.fold1 20 1 28 rfl (by simp [-gD]<;>omega) rfl (by decide) (by decide) rfl) ?_
         simp only [fS,fS3,qA,qC]
         refine Sub.trans (Sub.fold1 20 2 29 rfl (by simp [-gD]<;>omega) rfl (by decide) (by decide) rfl) ?_
         simp only [fS,fS3,qA,qC]
         refine Sub.shape [] id (by omega) ?_ ?_ ?_ ?_<;>simp [qR]
      ·try simp only [go_sem,seval,hh]
       repeat refine K ?_
       have hlt:wn<s.ths.length:=by have:=((yU p s).1 hI.ok).2.1; omega
       have hlt2:((wn:Nat):Int)<(s.ths.length:Nat):=by omega
       have hlb:wn<p.bods.length:=by omega
       obtain ⟨a1,a2,a3,a4⟩:=hI.tells hlt
       have hgt:=qP .own s.ths wn hlt
       have gts :∀r,((wR .own s.ths).set wn r).getD wn []=r:=fun r=>wW _ _ _ _ (by rw [yZ]; omega)
       have hgb:=qZ .own p.bods wn hlb
       have gbs :∀r,((yY .own p.bods).set wn r).getD wn []=r:=fun r=>wW _ _ _ _ (by rw [vJ]; omega)
       have htT:(wR .own s.ths).set wn [.int .i64 (s.ths.getD wn default).at_,.sl .own 1 (wT (s.ths.getD wn default).regs),.int .i64 (s.ths.getD wn default).st]=wR .own s.ths:=by rw [←hgt]; exact yV _ _ _ (by rw [yZ]; exact hlt)
       have hbB:(yY .own p.bods).set wn [.sl .own 5 (vO (p.bods.getD wn []))]=yY .own p.bods:=by rw [←hgb]; exact yV _ _ _ (by rw [vJ]; exact hlb)
       have hbl:=hpp.body _ (yR p.bods wn [] hlb)
       have ck:=zO (p.bods.getD wn []) (cE (p.bods.getD wn [])) (by omega) (fun h=>dW _ h)
       have kl:=fA (p.bods.getD wn [])
       unfold dA at a1 a4 kl
       generalize bO (p.bods.getD wn []) (cE (p.bods.getD wn []))=KB at *
       generalize p.bods.getD wn []=B at *
       generalize s.ths.getD wn default=t at *
       try simp only [go_sem,seval,hgo,hlt,hlt2,hlb,w1,hgt,gts,hgb,gbs]
       repeat refine K ?_
       refine DA [] (ck) ?_
       try simp only [go_sem,seval]
       repeat refine K ?_
       try simp only [go_sem,seval]
       repeat refine K ?_
       try simp only [go_sem,seval]
       repeat refine K ?_
       have hkg:=vM .own KB t.at_.toNat a1
       have hks :∀r,((qY .own KB).set t.at_.toNat r).getD t.at_.toNat []=r:=fun r=>wW _ _ _ _ (by rw [yP]; omega)
       have hkB:(qY .own KB).set t.at_.toNat [.sl .own 2 (wK (KB.getD t.at_.toNat []))]=qY .own KB:=by rw [←hkg]; exact yV _ _ _ (by rw [yP]; exact a1)
       have k4:(KB.getD t.at_.toNat []).length=4:=kl _ a1
       have ha2:t.at_<(KB.length:Nat):=by omega
       refine oL (ι:=Nat) (fun r=>[(3,.ptr 13 0 0),(4,.ns 12 0 order.length),(8,.ptr 20 0 0),(12,.int .i64 i),(15,.ptr 31 0 0),(16,.ns 33 0 KB.length),(17,.int .i64 r)]) (fun r=>r≤4) (fun r=>4-r) 0 (by simp) (by omega) (by simp [qU,bnd]) ?_ ?_
       ·repeat' (first | exact (dT _).2 trivial | refine bV _ _ _ _ ?_ (by omega) ?_)
        all_goals (first | (simp [yL,yQ,bnd]; done) | (refine dD ?_ _ ?_<;>simp [yL,yQ,bnd]))
       ·intro r hr
        simp only [go_sem,seval]
        refine qX (fun hc3=>?_) (fun hc3=>?_)
        ·simp only [decide_eq_true_eq] at hc3
         have hr4:r<(KB.getD t.at_.toNat []).length:=by omega
         have hkr:=jA (KB.getD t.at_.toNat []) r hr4
         have hrr:=qJ t.regs r (by omega)
         have hh4:=a4 r (by omega)
         generalize (KB.getD t.at_.toNat []).getD r default=kn at *
         cases hi3:kn.is_
         ·simp only [go_sem,seval,hkg,hks,hkr,hi3,a1,a2,ha2,wA (i:=r) (by omega)]
          repeat refine K ?_
          refine qT (r+1) ?_ (by omega) (by omega)
          refine Sub.trans (Sub.foldAt 33 0 34 rfl (by simp [-gD]<;>omega) rfl (by decide) (by decide) rfl (by simp<;>omega)) ?_
          simp only [fS,fS3,qA,qC,hkB]
          refine Sub.temps (by omega) ?_ (by simp [qU,bnd])
          repeat' (first | exact (dT _).2 trivial | refine bV _ _ _ _ ?_ (by omega) ?_)
          all_goals (first | (simp [yL,yQ,bnd]; done) | (refine dD ?_ _ ?_<;>simp [yL,yQ,bnd]))
         ·have hv:=hh4 hi3
          simp only [go_sem,seval,hkg,hks,hkr,hi3,hv,hrr,a1,a2,ha2,wA (i:=r) (by omega)]
          repeat refine K ?_
          refine qT (r+1) ?_ (by omega) (by omega)
          refine Sub.trans (Sub.foldAt 33 0 34 rfl (by simp [-gD]<;>omega) rfl (by decide) (by decide) rfl (by simp<;>omega)) ?_
          simp only [fS,fS3,qA,qC,hkB]
          refine Sub.temps (by omega) ?_ (by simp [qU,bnd])
          repeat' (first | exact (dT _).2 trivial | refine bV _ _ _ _ ?_ (by omega) ?_)
          all_goals (first | (simp [yL,yQ,bnd]; done) | (refine dD ?_ _ ?_<;>simp [yL,yQ,bnd]))
        ·simp only [go_sem,seval,wA (i:=i) (by omega)]
         repeat refine K ?_
         refine qT (i+1,s) ?_ ⟨hil,hI⟩ (by simp only; omega)
         refine Sub.trans (Sub.foldAt 22 0 32 rfl (by simp [-gD]<;>omega) rfl (by decide) (by decide) rfl (by simp<;>omega)) ?_
         simp only [fS,fS3,qA,qC,hbB]
         refine Sub.trans (Sub.fold1 13 0 21 rfl (by simp [-gD]<;>omega) rfl (by decide) (by decide) rfl) ?_
         simp only [fS,fS3,qA,qC]
         refine Sub.trans (Sub.fold1 13 1 22 rfl (by simp [-gD]<;>omega) rfl (by decide) (by decide) rfl) ?_
         simp only [fS,fS3,qA,qC]
         refine Sub.trans (Sub.foldAt 23 1 30 rfl (by simp [-gD]<;>omega) rfl (by decide) (by decide) rfl (by simp<;>omega)) ?_
         simp only [fS,fS3,qA,qC,htT]
         refine Sub.trans (Sub.fold1 20 0 23 rfl (by simp [-gD]<;>omega) rfl (by decide) (by decide) rfl) ?_
         simp only [fS,fS3,qA,qC]
         refine Sub.trans (Sub.fold1 20 1 24 rfl (by simp [-gD]<;>omega) rfl (by decide) (by decide) rfl) ?_
         simp only [fS,fS3,qA,qC]
         refine Sub.trans (Sub.fold1 20 2 25 rfl (by simp [-gD]<;>omega) rfl (by decide) (by decide) rfl) ?_
         simp only [fS,fS3,qA,qC]
         refine Sub.shape [] id (by omega) ?_ ?_ ?_ ?_<;>simp [qR]
    ·simp only [decide_eq_false_iff_not] at hc2
     simp only [go_sem,seval]
     repeat refine K ?_
     refine fz ?_; simp [jD,wN,wP,yA,-List.drop_one]
end Go.Sep
