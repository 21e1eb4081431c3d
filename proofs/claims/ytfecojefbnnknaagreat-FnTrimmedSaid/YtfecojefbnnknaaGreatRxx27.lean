/- Contracts of functions. -/
import Derived.Test.YtfecojefbnnknaaGreatRxx21
import Derived.Test.YtfecojefbnnknaaGreatRxx25
import Derived.Test.YtfecojefbnnknaaGreatRxx26
open List renaming replicate → wBj
namespace Go.Sep
set_option maxHeartbeats 16000000
open Go.Proofs
set_option linter.unusedSimpArgs false
set_option linter.unusedVariables false
set_option maxRecDepth 100000
open Nat renaming reduceAdd → qA, reduceMul → qB, reduceEqDiff → qC, reduceBEq → qD
open Int renaming reduceToNat → qE, reduceEq → qF, reduceLT → qG, reduceLE → qH
open List renaming getD_eq_getElem?_getD → gD
def m490:MFn:=⟨52,[.t 2],kr [xo 2 (.mv (.c (.nil)))] (kr [xo 9 (.mkSl [.nil] 0 []),xv 3 9] (.seq (kr [xv 10 0,xc2 11 82 (.t 10) (xi 3),xN 12 11] (kF 12 [xv 13 3,xv 2 13])) (kr [xo 14 (.mkSl [.nil] 0 []),xv 4 14] (.seq (kr [xI 5 0] (.blk 0 (.loop (.seq (kr [xv 15 5,xv 16 0,xe 17 16,bT 18 .lss 15 17] (kX 18 0)) (.seq (.blk 1 (xr [xv 21 4,xo 22 (.mkS [.bool false] 1 (xi 4) (xi 4)),xo 23 (.mkSl [.nil] 1 [(0,.t 22)]),xA 24 1 24 21 23,xv 4 24])) (xr [xv 19 5,bI 20 .add 19 1,xv 5 20])))))) (.seq (kr [xT 6] (.blk 2 (.loop (.seq (kr [xv 25 6] (kX 25 2)) (.blk 3 (kr [xF 6] (kr [xv 26 0,xe 27 26,bI 28 .sub 27 1,xv 7 28] (.blk 4 (.loop (.seq (kr [xv 29 7,bI 30 .geq 29 0] (kX 30 4)) (.seq (.blk 5 (kr [xv 33 0,xv 34 4,xv 35 7,xo 36 (.call 492 [false,true,false] [.t 33,.t 34,.t 35])] (.cond 36 (xr [xT 6]) (.skip)))) (xr [xv 31 7,bI 32 .sub 31 1,xv 7 32])))))))))))) (.seq (kr [xI 8 0] (.blk 6 (.loop (.seq (kr [xv 37 8,xv 38 0,xe 39 38,bT 40 .lss 37 39] (kX 40 6)) (.seq (.blk 7 (xr [xv 43 3,xv 44 4,xv 45 8,xD 46 1 44 45,xl 47 46,xc2 48 493 (.t 47) (.c (.bool true)),xo 49 (.mkSl [.nil] 1 [(0,.t 48)]),xA 50 1 24 43 49,xv 3 50])) (xr [xv 41 8,bI 42 .add 41 1,xv 8 42])))))) (kR [xv 51 3,xv 2 51])))))))⟩
theorem qZd:[[AV.bool false],[AV.bool false],[AV.bool false],[AV.bool false]]=jA b4:=rfl
theorem qTc (n:Nat):List.replicate n b4++[b4]=List.replicate (n+1) b4:=by rw [List.replicate_succ']
theorem qHg (l:List Ins) (hl:l.length<2^40):qY Tryz.prog num 490 [.sl .bw 5 (yV l)] [] (.sl .own 1 (jG .own (dO l))):=by
 refine EN m490 Tryz.func57 ?_
 unfold m490
 simp only [go_sem,seval]
 repeat refine K ?_
 refine CA [] (kA l 3 (by omega) (by omega) (by omega)) ?_
 try simp only [go_sem,seval]
 repeat refine K ?_
 cases hb:wF l 3
 ·have hf:dO l=[]:=by simp [dO,hb]
  rw [hf]
  try simp only [go_sem,seval,hb]
  repeat refine K ?_
  refine ⟨_,Sub.refl _,qU ?_⟩; simp [-List.drop_one]
 obtain ⟨hl1,hl2⟩:=zS hb
 have hb4:b4.length=4:=rfl
 try simp only [go_sem,seval,hb]
 repeat refine K ?_
 refine qZ (ι:=Nat) (fun i=>.mk [(0,.sl .bw 5 (yV l)),(3,.ns 10 0 0),(4,.ns 11 0 i),(5,.int .i64 i)] [(10,1,jG .own []),(11,1,jH .own (wBj i b4))] 12) (fun i=>i≤l.length) (fun i=>l.length-i) 0 (by simp) ?_ ?_
 ·refine Sub.shape [] id (by omega) ?_ ?_ ?_ ?_<;>simp [qK]
 ·intro i hi
  simp only [go_sem,seval]
  refine qP (fun hc=>?_) (fun hc=>?_)
  ·simp only [decide_eq_true_eq] at hc
   have hi':i<l.length:=by omega
   simp only [go_sem,seval,qN (i:=i) (by omega)]
   repeat refine K ?_
   rw [qZd]
   refine qM (i+1) ?_ hi' (by omega)
   refine Sub.trans (Sub.foldLast 14 0 12 rfl (by simp [-gD]<;>omega) rfl (by decide) (by decide) rfl) ?_
   simp only [fS,fS3,qA,qC,hb4]
   refine Sub.shape [] (fun n=>if n=11 then 14 else n) (by omega) ?_ ?_ ?_ ?_<;>simp [qK]
   all_goals (rw [qR1,sE,qTc])
   all_goals (exact .inl rfl)
  ·simp only [decide_eq_false_iff_not] at hc
   have he:i=l.length:=by omega
   subst he
   simp only [go_sem,seval]
   repeat refine K ?_
   refine qZ (ι:=List (List Bool)×Bool) (fun q=>.mk [(0,.sl .bw 5 (yV l)),(3,.ns 10 0 0),(4,.ns 11 0 l.length),(6,.bool q.2)] [(10,1,jG .own []),(11,1,jH .own q.1)] 12) (fun q=>LvB l q.1∧(q.2=false→∀a r,a<l.length→r<4→kE l q.1 a r=true→atB q.1 a r=true)) (fun q=>4*l.length-lS q.1+(if q.2 then 1 else 0)) (wBj l.length b4,true) ⟨LvB.new l,fun h=>absurd h (by simp)⟩ ?_ ?_
   ·refine Sub.shape [] id (by omega) ?_ ?_ ?_ ?_<;>simp [qK]
   ·rintro ⟨S0,more⟩ ⟨hS,hm⟩
    simp only at hS hm⊢
    have hlen0:=hS.len
    cases more
    ·have hd:=fun a ha=>hS.places hb (hm rfl) (a:=a) ha
     have hvl:=qC0 hb
     simp only [go_sem,seval]
     repeat refine K ?_
     refine qZ (ι:=Nat) (fun i=>.mk [(0,.sl .bw 5 (yV l)),(3,.ns 10 0 i),(4,.ns 11 0 l.length),(8,.int .i64 i)] [(10,1,jG .own ((dO l).take i)),(11,1,jH .own S0)] 12) (fun i=>i≤l.length) (fun i=>l.length-i) 0 (by simp) ?_ ?_
     ·refine Sub.shape [] id (by omega) ?_ ?_ ?_ ?_<;>simp [qK]
     ·intro i hi
      simp only [go_sem,seval]
      refine qP (fun hc=>?_) (fun hc=>?_)
      ·simp only [decide_eq_true_eq] at hc
       have hi':i<l.length:=by omega
       have hr:=qDh .own S0 i (by omega)
       have hsg :∀r,((jH .own S0).set i r).getD i []=r:=fun r=>jR _ _ _ _ (by rw [zH]; omega)
       have hsm:(jH .own S0).set i [.sl .own 1 (jA (S0.getD i []))]=jH .own S0:=by rw [←hr]; exact jP _ _ _ (by rw [zH]; omega)
       have h4:=hS.four i hi'
       have hdi:=hd i hi'
       have cp:=qL8 (S0.getD i []) (by omega)
       rw [hdi] at cp
       have htk:=jX (dO l) [] i (by omega)
       have htl:((dO l).take i).length=i:=by rw [List.length_take]; omega
       have hil:(((i:Nat):Int)<(S0.length:Nat)):=by omega
       have hil2:i<S0.length:=by omega
       generalize S0.getD i []=R at *
       generalize (dO l).getD i []=V at *
       simp only [go_sem,seval,hr,hsg,hil,hil2,qN (i:=i) (by omega)]
       repeat refine K ?_
       refine CA [] (cp) ?_
       try simp only [go_sem,seval]
       repeat refine K ?_
       try simp only [go_sem,seval,htl,qN (i:=i) (by omega)]
       repeat refine K ?_
       refine qM (i+1) ?_ hi' (by omega)
       refine Sub.trans (Sub.foldLast 15 0 13 rfl (by simp [-gD]<;>omega) rfl (by decide) (by decide) rfl) ?_
       simp only [fS,fS3,qA,qC]
       refine Sub.trans (Sub.foldAt 11 0 12 rfl (by simp [-gD]<;>omega) rfl (by decide) (by decide) rfl (by simp<;>omega)) ?_
       simp only [fS,fS3,qA,qC,hsm]
       refine Sub.shape [] (fun n=>if n=10 then 15 else n) (by omega) ?_ ?_ ?_ ?_<;>simp [qK]
       all_goals (rw [qU4,qAk,←htk])
       all_goals (exact .inl rfl)
      ·simp only [decide_eq_false_iff_not] at hc
       have he:i=l.length:=by omega
       subst he
       have htk:(dO l).take l.length=dO l:=List.take_of_length_le (by omega)
       simp only [go_sem,seval,htk]
       repeat refine K ?_
       refine ⟨_,Sub.refl _,qU ?_⟩; simp [-List.drop_one]
       all_goals (try simp [hvl])
    ·have wl:IntKind.i64.wrap ((l.length:Int)-1)=(l.length:Int)-1:=yL (by omega) (by omega)
     simp only [go_sem,seval,wl]
     repeat refine K ?_
     refine qZ (ι:=Nat×List (List Bool)×Bool) (fun q=>.mk [(0,.sl .bw 5 (yV l)),(3,.ns 10 0 0),(4,.ns 11 0 l.length),(6,.bool q.2.2),(7,.int .i64 ((q.1:Int)-1))] [(10,1,jG .own []),(11,1,jH .own q.2.1)] 12) (fun q=>q.1≤l.length∧LvB l q.2.1∧lS S0≤lS q.2.1∧(q.2.2=false→q.2.1=S0∧∀a r,q.1≤a→a<l.length→r<4→kE l S0 a r=true→atB S0 a r=true)∧(q.2.2=true→lS S0<lS q.2.1)) (fun q=>q.1) (l.length,S0,false) ⟨Nat.le_refl _,hS,Nat.le_refl _,fun _=>⟨rfl,fun a r h1 h2=>by simp only at h1; omega⟩,fun h=>absurd h (by simp)⟩ ?_ ?_
     ·refine Sub.shape [] id (by omega) ?_ ?_ ?_ ?_<;>simp [qK]
     ·rintro ⟨j,S1,mo⟩ ⟨hj,hS1,ht,hf,hmo⟩
      simp only at hj hS1 ht hf hmo⊢
      have hlen1:=hS1.len
      cases j with
      | zero =>
       simp only [go_sem,seval]
       repeat refine K ?_
       refine qM (S1,mo) ?_ ⟨hS1,fun h=>?_⟩ ?_
       ·refine Sub.shape [] id (by omega) ?_ ?_ ?_ ?_<;>simp [qK]
       ·obtain ⟨h1,h2⟩:=hf h
        simp only at h⊢
        rw [h1]
        exact fun a r ha=>h2 a r (by omega) ha
       ·have:=hS1.top
        have:=hS.top
        cases mo
        ·simp only [Bool.false_eq_true,if_false,if_true]
         omega
        ·have:=hmo rfl
         simp only [if_true]
         omega
      | succ a =>
       have ha:a<l.length:=by omega
       have ja:(((a+1:Nat):Int)-1)=(a:Int):=by omega
       have wa:IntKind.i64.wrap ((a:Int)-1)=(a:Int)-1:=yL (by omega) (by omega)
       have h0a:(0:Int)≤(a:Int):=by omega
       have cr:=qNp l S1 a hb hS1 ha
       obtain ⟨r1,r2,r3,r4⟩:=qBi hS1 hb ha 4 (Nat.le_refl _)
       generalize lX l a 4 (S1,false)=q at *
       obtain ⟨S2,m2⟩:=q
       simp only at cr r1 r2 r3 r4
       have hlen2:=r1.len
       rw [hlen1] at cr
       simp only [go_sem,seval,ja,h0a]
       repeat refine K ?_
       refine CA [(0,11)] (cr) ?_
       try simp only [go_sem,seval]
       repeat refine K ?_
       cases m2
       ·obtain ⟨e1,e2⟩:=r3 rfl
        subst e1
        try simp only [go_sem,seval,wa]
        repeat refine K ?_
        refine qM (a,S2,mo) ?_ ⟨by simp only; omega,hS1,ht,fun h=>⟨(hf h).1,fun b r hb1 hb2 hb3 hb4=>?_⟩,hmo⟩ (by simp only; omega)
        ·refine Sub.shape [] id (by omega) ?_ ?_ ?_ ?_<;>simp [qK]
        ·by_cases hba:b=a
         ·subst hba
          rw [←(hf h).1] at hb4⊢
          exact e2 r hb3 hb4
         ·exact (hf h).2 b r (by simp only at hb1; omega) hb2 hb3 hb4
       ·have hmr:=r4 rfl
        try simp only [go_sem,seval,wa]
        repeat refine K ?_
        refine qM (a,S2,true) ?_ ⟨by simp only; omega,r1,by simp only; omega,fun h=>absurd h (by simp),fun _=>by simp only; omega⟩ (by simp only; omega)
        refine Sub.shape [] id (by omega) ?_ ?_ ?_ ?_<;>simp [qK]
end Go.Sep
