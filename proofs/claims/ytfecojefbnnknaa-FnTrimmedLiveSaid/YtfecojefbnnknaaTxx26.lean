/- Contracts of functions. -/
import Derived.Test.YtfecojefbnnknaaTxx21
import Derived.Test.YtfecojefbnnknaaTxx25
namespace Go.Sep
set_option maxHeartbeats 16000000
open Go.Proofs
set_option linter.unusedSimpArgs false
set_option linter.unusedVariables false
set_option maxRecDepth 100000
open Nat renaming reduceAdd → qA, reduceMul → qB, reduceEqDiff → qC, reduceBEq → qD
open Int renaming reduceToNat → qE, reduceEq → qF, reduceLT → qG, reduceLE → qH
open List renaming getD_eq_getElem?_getD → gD
def m167:MFn:=⟨100,[.t 2],kr [xF 2] (.seq (kr [xv 13 0,xc1 14 19 (.t 13)] (kF 14 [xT 2])) (kr [xv 16 0,xo 17 (.call 168 [true] [.t 16]),xv 15 17,xX 18 15 0,xX 19 15 1,xo 3 (.alloc [.nil,.nil]),xS 2 3 18,xv 4 19] (kr [xm 20 2 3,xc1 21 169 (.t 20),xo 5 (.alloc [.nil,.nil]),xS 2 5 21] (kr [xm 23 2 3,xc1 24 24 (.t 23),xv 22 24,xX 25 22 0,xX 26 22 1,xo 6 (.alloc [.nil,.nil,.nil]),xS 3 6 25,xv 7 26] (kr [xm 28 2 5,xc1 29 24 (.t 28),xv 27 29,xX 30 27 0,xX 31 27 1,xo 8 (.alloc [.nil,.nil,.nil]),xS 3 8 30,xv 9 31] (.seq (kr [xv 32 9,xN 33 32] (kF 33 [xF 2])) (kr [xm 35 2 3,xm 36 3 6,xv 37 4,xc3 38 25 (.t 35) (.t 36) (.t 37),xv 34 38,xX 39 34 0,xX 40 34 1,xS 3 6 39] (kr [xm 42 2 5,xm 43 3 8,xv 44 4,xc3 45 25 (.t 42) (.t 43) (.t 44),xv 41 45,xX 46 41 0,xX 47 41 1,xS 3 8 46] (.seq (kr [xI 10 0] (.blk 0 (.loop (.seq (kr [xv 48 10,xa 49 0 6,xl 50 49,xe 51 50,bT 52 .lss 48 51] (kX 52 0)) (.seq (.blk 1 (.seq (.dreg (.take 0 (xa 55 1 3) (.take 1 (xl 56 55) (.take 2 (xv 57 10) (.take 3 (xD 58 1 56 57) (.take 4 (xl 59 58) (.take 6 (xa 61 0 6) (.take 7 (xl 62 61) (.take 8 (xv 63 10) (.take 9 (xD 64 3 62 63) (.take 10 (xa 65 0 64) (.take 11 (xl 66 65) (.only 5 [4,3,1,2,0] (xc1 60 170 (.t 59)) (.only 12 [5,11,4,10,3,9,1,2,7,8,0,6] (xD 67 1 60 66) (.only 13 [12,5,11,4,10,3,9,1,2,7,8,0,6] (xl 68 67) (.only 14 [0,1,2,3,4,6,7,8,9,10,11] (xv 11 68) (.done))))))))))))))))) (kr [xI 12 0] (.blk 2 (.loop (.seq (kr [xv 69 12,xv 70 11,xe 71 70,bT 72 .lss 69 71] (kX 72 2)) (.seq (.blk 3 (.seq (.dreg (.take 0 (xa 75 0 6) (.take 1 (xl 76 75) (.take 2 (xv 77 10) (.take 3 (xD 78 3 76 77) (.take 4 (xa 79 1 78) (.take 5 (xl 80 79) (.take 6 (xv 81 11) (.take 7 (xv 82 12) (.take 8 (xD 83 1 81 82) (.take 9 (xl 84 83) (.take 10 (xD 85 1 80 84) (.take 11 (xl 86 85) (.take 12 (xa 87 0 8) (.take 13 (xl 88 87) (.take 14 (xv 89 10) (.take 15 (xD 90 3 88 89) (.take 16 (xa 91 1 90) (.take 17 (xl 92 91) (.take 18 (xv 93 11) (.only 19 [] (xv 94 12) (.only 20 [18] (xD 95 1 93 94) (.only 21 [20,18] (xl 96 95) (.only 22 [17,21,16,20,15,18,13,14,12] (xD 97 1 92 96) (.only 23 [22,17,21,16,20,15,18,13,14,12] (xl 98 97) (.only 24 [11,23,10,22,5,9,17,21,4,8,16,20,3,6,7,15,18,1,2,13,14,0,12] (bT 99 .neq 86 98) (.done))))))))))))))))))))))))))) (kF 99 [xF 2]))) (xr [xv 73 12,bI 74 .add 73 1,xv 12 74])))))))) (xr [xv 53 10,bI 54 .add 53 1,xv 10 54])))))) (kR [xT 2]))))))))))⟩
theorem qE9 :∀(t:List (Nat×AV)) (n:Nat),qV t n=.any∨∃x∈t,x.1=n∧qV t n=x.2
 | [],n=>.inl rfl
 | (k,v)::t,n=>by
  by_cases h:n=k
  ·subst h
   exact .inr ⟨(n,v),by simp,rfl,by simp [qV]⟩
  ·have e:qV ((k,v)::t) n=qV t n:=by simp [qV,h]
   rcases qE9 t n with h2 | ⟨x,h2,h3,h4⟩
   ·exact .inl (e.trans h2)
   ·exact .inr ⟨x,List.mem_cons_of_mem _ h2,h3,e.trans h4⟩
theorem Sub.temps {t t':List (Nat×AV)} {h:wM} {nx nx':Nat} (hn:10≤nx') (hb:HB h nx') (ht :∀x∈t',qV t x.1=x.2∧bnd (· < nx') x.2):Sub (.mk t h nx) (.mk t' h nx'):=by
 rintro B a w ⟨h1,h2,h3,h4,φ,Lf,hl⟩
 refine ⟨h1,h2,hb,fun n=>?_,φ,Lf,hl.ok,fun n=>?_,hl.φ0,hn⟩
 ·rcases qE9 t' n with e | ⟨x,hx,e1,e2⟩
  ·rw [e]; simp [bnd]
  ·rw [e2]; exact (ht x hx).2
 ·rcases qE9 t' n with e | ⟨x,hx,e1,e2⟩
  ·rw [e]; simp [RV]
  ·rw [e2,←(ht x hx).1,e1]; exact hl.tm n
theorem qR9 {P:Program} {num:Nat→Nat} {fin:AS→Prop} {ι:Type} (tt:ι→List (Nat×AV)) (good:ι→Prop) (μ:ι→Nat) (i0:ι) {a:bA} {k:List It} {t:List (Nat×AV)} {h:wM} {nx:Nat} (h0:good i0) (hn:10≤nx)
  (ht :∀x∈tt i0,qV t x.1=x.2∧bnd (· < nx) x.2) (hb:HB h nx)
  (step :∀i,good i→vc P num fin (.code a::.stop (qY0 (fun i=>.mk (tt i) h nx) good μ (μ i))::k) (.mk (tt i) h nx)):qH5 P num fin a k (.mk t h nx) :=
 wR (fun i=>.mk (tt i) h nx) good μ i0 h0 (Sub.temps hn hb ht) step
theorem qTu {l:List Ins} (hb:wJ l 3=true) {a:Nat} (ha:a<l.length) {r:Int} (h:r∈(zX l).getD a []):(0≤r∧r<4)∧qG9 l a r:=by
 have hr:0≤r∧r<4:=by
  unfold zX at h
  rw [if_pos hb] at h
  simp only [List.getD_eq_getElem?_getD,List.getElem?_map,List.getElem?_range ha,Option.map_some,Option.getD_some,List.mem_filter] at h
  have:=h.1
  simp at this
  omega
 exact ⟨hr,(qAn hb ha hr).1 h⟩
theorem qQ9 {p:wT} (h:jF p=true) {l:List Int} (hl:l.length≤4000):LvI p (jO p) (dV p (yG p).1 l).1 (dV (jO p) (yG (jO p)).1 l).1:=by
 have hs:=gT h
 have ht:=gT (fL h)
 have h4:decide ((l.length:Int)≤4000)=true:=decide_eq_true (by omega)
 unfold dV qXk
 rw [hs,ht,h4]
 simp only [Bool.and_self,if_true]
 rw [qIr,qIr]
 exact (qSq h l).1
theorem qRo (code:List Int):wB Try.prog num 167 [.sl .fz 1 (bys code)] [] (.bool true):=by
 refine EN m167 Try.func3 ?_
 unfold m167
 simp only [go_sem,seval]
 repeat refine K ?_
 refine CA [] (qXz code) ?_
 try simp only [go_sem,seval]
 repeat refine K ?_
 by_cases hbig:(1048576:Int)<code.length
 ·try simp only [go_sem,seval,hbig]
  repeat refine K ?_
  refine fz ?_; simp [jE,wL,wN,yF,-List.drop_one]
 have hb:code.length<2^62:=by omega
 try simp only [go_sem,seval,hbig]
 repeat refine K ?_
 refine CA [] (qEn code hb) ?_
 try simp only [go_sem,seval]
 repeat refine K ?_
 obtain ⟨hp,hol,hox⟩:=qQs code
 generalize kY code=w at *
 obtain ⟨p,order⟩:=w
 simp only at hp hol hox⊢
 have hpp:=qGn hp
 have hq:=fL hp
 have hqq:=qGn hq
 have hI:=qQ9 hp (l:=order) (by omega)
 have ctp:=qFp p hpp
 have sp0:=gT hp
 have sq0:=gT hq
 have csp:=kD p hpp.caps hpp.bods hpp.body'
 have csq:=kD (jO p) hqq.caps hqq.bods hqq.body'
 have nq:(yG (jO p)).2=true:=by simp [yG,hq]
 have crp:=kC p (yG p).1 order hpp (rX sp0) (by omega)
 have crq:=kC (jO p) (yG (jO p)).1 order hqq (rX sq0) (by omega)
 rw [nq] at csq
 generalize jO p=q at *
 generalize dV p (yG p).1 order=U at *
 generalize dV q (yG q).1 order=V at *
 generalize yG p=N at *
 obtain ⟨s,b1⟩:=N
 generalize (yG q).1=t at *
 obtain ⟨u,c1⟩:=U
 obtain ⟨v,c2⟩:=V
 simp only at crp crq csp hI
 have hus:=(yW p u).1 hI.ok
 have hvs:=(yW q v).1 hI.okq
 have hth:=hI.th
 have hlen:=hI.len
 try simp only [go_sem,seval]
 repeat refine K ?_
 refine CA [] (ctp) ?_
 try simp only [go_sem,seval]
 repeat refine K ?_
 try simp only [go_sem,seval]
 repeat refine K ?_
 refine CA [] (csp) ?_
 try simp only [go_sem,seval]
 repeat refine K ?_
 try simp only [go_sem,seval]
 repeat refine K ?_
 refine CA [] (csq) ?_
 try simp only [go_sem,seval]
 repeat refine K ?_
 try simp only [go_sem,seval]
 repeat refine K ?_
 refine CA [] (crp) ?_
 try simp only [go_sem,seval]
 repeat refine K ?_
 try simp only [go_sem,seval]
 repeat refine K ?_
 refine CA [] (crq) ?_
 try simp only [go_sem,seval]
 repeat refine K ?_
 try simp only [go_sem,seval]
 repeat refine K ?_
 refine wR (ι:=Nat) (fun i=>.mk [(3,.ptr 13 0 0),(6,.ptr 20 0 0),(8,.ptr 24 0 0),(10,.int .i64 i)] [(13,2,[gY .own p]),(20,3,[vX .own u]),(24,3,[vX .own v])] 33) (fun i=>i≤u.ths.length) (fun i=>u.ths.length-i) 0 (by simp) ?_ ?_
 ·refine Sub.trans (Sub.fold1 13 0 10 rfl (by simp [-gD]<;>omega) rfl (by decide) (by decide) rfl) ?_
  simp only [fS,fS3,qA,qC]
  refine Sub.trans (Sub.fold1 13 1 11 rfl (by simp [-gD]<;>omega) rfl (by decide) (by decide) rfl) ?_
  simp only [fS,fS3,qA,qC]
  refine Sub.trans (Sub.fold1 20 0 25 rfl (by simp [-gD]<;>omega) rfl (by decide) (by decide) rfl) ?_
  simp only [fS,fS3,qA,qC]
  refine Sub.trans (Sub.fold1 20 1 26 rfl (by simp [-gD]<;>omega) rfl (by decide) (by decide) rfl) ?_
  simp only [fS,fS3,qA,qC]
  refine Sub.trans (Sub.fold1 20 2 27 rfl (by simp [-gD]<;>omega) rfl (by decide) (by decide) rfl) ?_
  simp only [fS,fS3,qA,qC]
  refine Sub.trans (Sub.fold1 24 0 29 rfl (by simp [-gD]<;>omega) rfl (by decide) (by decide) rfl) ?_
  simp only [fS,fS3,qA,qC]
  refine Sub.trans (Sub.fold1 24 1 30 rfl (by simp [-gD]<;>omega) rfl (by decide) (by decide) rfl) ?_
  simp only [fS,fS3,qA,qC]
  refine Sub.trans (Sub.fold1 24 2 31 rfl (by simp [-gD]<;>omega) rfl (by decide) (by decide) rfl) ?_
  simp only [fS,fS3,qA,qC]
  refine Sub.shape [] id (by omega) ?_ ?_ ?_ ?_<;>simp [qU]
 ·intro i hi
  simp only [go_sem,seval]
  refine qZ (fun hc=>?_) (fun hc=>?_)
  ·simp only [decide_eq_true_eq] at hc
   have hil:i<u.ths.length:=by omega
   have hiv:i<v.ths.length:=by omega
   have hib:i<p.bods.length:=by omega
   have htu:=hus.2.2.2.2.1 i hil
   have htv:=hvs.2.2.2.2.1 i hiv
   unfold vP at htu htv
   simp only [Bool.and_eq_true,decide_eq_true_eq,qK] at htu htv
   have hb3:wJ (p.bods.getD i []) 3=true:=qF6 hI.ok hil
   have hlive:=(hth i hil).2.2
   have hbd:body p i=p.bods.getD i []:=rfl
   have hu1:thd u i=u.ths.getD i default:=rfl
   have hv1:thd v i=v.ths.getD i default:=rfl
   rw [hbd,hu1,hv1] at hlive
   have gtu:=qP .own u.ths i hil
   have gtv:=qP .own v.ths i hiv
   have gb:=qX .own p.bods i hib
   have gtus :∀r,((wW .own u.ths).set i r).getD i []=r:=fun r=>jT _ _ _ _ (by rw [vI]; omega)
   have gtvs :∀r,((wW .own v.ths).set i r).getD i []=r:=fun r=>jT _ _ _ _ (by rw [vI]; omega)
   have gbs :∀r,((yO .own p.bods).set i r).getD i []=r:=fun r=>jT _ _ _ _ (by rw [zZ]; omega)
   have huT:(wW .own u.ths).set i [.int .i64 (u.ths.getD i default).at_,.sl .own 1 (wK (u.ths.getD i default).regs),.int .i64 (u.ths.getD i default).st]=wW .own u.ths:=by rw [←gtu]; exact vU _ _ _ (by rw [vI]; exact hil)
   have hvT:(wW .own v.ths).set i [.int .i64 (v.ths.getD i default).at_,.sl .own 1 (wK (v.ths.getD i default).regs),.int .i64 (v.ths.getD i default).st]=wW .own v.ths:=by rw [←gtv]; exact vU _ _ _ (by rw [vI]; exact hiv)
   have hbB:(yO .own p.bods).set i [.sl .own 5 (vC (p.bods.getD i []))]=yO .own p.bods:=by rw [←gb]; exact vU _ _ _ (by rw [zZ]; exact hib)
   have cla:=pF (p.bods.getD i []) (hpp.body _ (yL p.bods i [] hib))
   have hVl:=qH7 hb3
   have hin:=fun a ha r=>@qTu (p.bods.getD i []) hb3 a ha r
   have hrow:=fun a=>@qH6 (p.bods.getD i []) a
   generalize p.bods.getD i []=B at *
   generalize u.ths.getD i default=tu at *
   generalize v.ths.getD i default=tv at *
   have ha0:0≤tu.at_:=by omega
   have haB:tu.at_.toNat<B.length:=by omega
   have hinA:=hin tu.at_.toNat haB
   clear hin
   have haV:tu.at_<((zX B).length:Nat):=by omega
   have gV:=lJ .own (zX B) tu.at_.toNat (by omega)
   have gVs :∀r,((jU .own (zX B)).set tu.at_.toNat r).getD tu.at_.toNat []=r:=fun r=>jT _ _ _ _ (by rw [uR]; omega)
   have hrowA:=hrow tu.at_.toNat
   have haV2:tu.at_.toNat<(zX B).length:=by omega
   generalize zX B=W at *
   generalize W.getD tu.at_.toNat []=R at *
   have hli:((i:Nat):Int)<(p.bods.length:Nat):=by omega
   simp only [go_sem,seval,gtu,gb,gbs,gtus,hib,hli]
   repeat refine K ?_
   refine DA [] (cla) ?_
   try simp only [go_sem,seval]
   repeat refine K ?_
   try simp only [go_sem,seval,gV,gVs,ha0,haV,haV2]
   repeat refine K ?_
   refine qR9 (ι:=Nat) (fun k=>[(3,.ptr 13 0 0),(6,.ptr 20 0 0),(8,.ptr 24 0 0),(10,.int .i64 i),(11,.ns 37 0 R.length),(12,.int .i64 k)]) (fun k=>k≤R.length) (fun k=>R.length-k) 0 (by simp) (by omega) (by simp [qV,bnd]) ?_ ?_
   ·repeat' (first | exact (nN _).2 trivial | refine fU _ _ _ _ ?_ (by omega) ?_)
    all_goals (first | (simp [yM,yX,bnd]; done) | (refine nY ?_ _ ?_<;>simp [yM,yX,bnd]))
   ·intro k hk
    simp only [go_sem,seval]
    refine qZ (fun hc2=>?_) (fun hc2=>?_)
    ·simp only [decide_eq_true_eq] at hc2
     have hkR:k<R.length:=by omega
     have gR:=qJ R k hkR
     obtain ⟨⟨r0,r4⟩,hlv⟩:=hinA _ (yL R k 0 hkR)
     generalize R.getD k 0=r at gR r0 r4 hlv
     have hru:=qJ tu.regs r.toNat (by omega)
     have hrv:=qJ tv.regs r.toNat (by omega)
     have heq:=hlive r.toNat (by omega) (by rw [Int.toNat_of_nonneg r0]; exact hlv)
     rw [heq] at hrv
     have ru1:r.toNat<tu.regs.length:=by omega
     have rv1:r.toNat<tv.regs.length:=by omega
     have ru2:r<(tu.regs.length:Nat):=by omega
     have rv2:r<(tv.regs.length:Nat):=by omega
     simp only [go_sem,seval,gR,gtu,gtus,gtv,gtvs,hru,hrv,r0,ru1,rv1,ru2,rv2,hil,hiv,wD (i:=k) (by omega)]
     repeat refine K ?_
     refine wC (k+1) ?_ hkR (by omega)
     refine Sub.trans (Sub.foldAt 33 1 38 rfl (by simp [-gD]<;>omega) rfl (by decide) (by decide) rfl (by simp<;>omega)) ?_
     simp only [fS,fS3,qA,qC,huT]
     refine Sub.trans (Sub.foldAt 39 1 40 rfl (by simp [-gD]<;>omega) rfl (by decide) (by decide) rfl (by simp<;>omega)) ?_
     simp only [fS,fS3,qA,qC,hvT]
     refine Sub.trans (Sub.fold1 24 0 39 rfl (by simp [-gD]<;>omega) rfl (by decide) (by decide) rfl) ?_
     simp only [fS,fS3,qA,qC]
     refine Sub.temps (by omega) ?_ (by simp [qV,bnd])
     repeat' (first | exact (nN _).2 trivial | refine fU _ _ _ _ ?_ (by omega) ?_)
     all_goals (first | (simp [yM,yX,bnd]; done) | (refine nY ?_ _ ?_<;>simp [yM,yX,bnd]))
    ·simp only [decide_eq_false_iff_not] at hc2
     simp only [go_sem,seval,wD (i:=i) (by have:=(rX hI.ok).ths; omega)]
     repeat refine K ?_
     refine wC (i+1) ?_ hil (by omega)
     refine Sub.trans (Sub.foldAt 34 0 35 rfl (by simp [-gD]<;>omega) rfl (by decide) (by decide) rfl (by simp<;>omega)) ?_
     simp only [fS,fS3,qA,qC,hbB]
     refine Sub.trans (Sub.fold1 13 1 34 rfl (by simp [-gD]<;>omega) rfl (by decide) (by decide) rfl) ?_
     simp only [fS,fS3,qA,qC]
     refine Sub.trans (Sub.fold1 20 0 33 rfl (by simp [-gD]<;>omega) rfl (by decide) (by decide) rfl) ?_
     simp only [fS,fS3,qA,qC]
     refine Sub.shape [] id (by omega) ?_ ?_ ?_ ?_<;>simp [qU]
  ·simp only [decide_eq_false_iff_not] at hc
   simp only [go_sem,seval]
   repeat refine K ?_
   refine fz ?_; simp [jE,wL,wN,yF,-List.drop_one]
end Go.Sep
