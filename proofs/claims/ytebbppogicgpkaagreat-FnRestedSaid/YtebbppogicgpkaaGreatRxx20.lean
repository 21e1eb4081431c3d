/- Contracts of functions. -/
import Derived.Test.YtebbppogicgpkaaGreatRxx14
import Derived.Test.YtebbppogicgpkaaGreatRxx17
import Derived.Test.YtebbppogicgpkaaGreatRxx19
import Derived.Test.YtebbppogicgpkaaGreatRxx4
namespace Go.Sep
set_option maxHeartbeats 16000000
open Go.Proofs
set_option linter.unusedSimpArgs false
set_option linter.unusedVariables false
set_option maxRecDepth 100000
open Nat renaming reduceAdd → qA, reduceMul → qB, reduceEqDiff → qC, reduceBEq → qD
open Int renaming reduceToNat → qE, reduceEq → qF, reduceLT → qG, reduceLE → qH
open List renaming getD_eq_getElem?_getD → gD
def m386:MFn:=⟨65,[.cell 4 4 true,.t 5],kr [xb 2 0,xo 4 (.alloc [.nil,.nil,.nil,.nil]),xo 5 (.mv (.c (.nil)))] (kr [xo 10 (.mkSl [xz] 0 []),xv 6 10] (kr [xm 11 4 2,xc1 12 356 (.t 11),xo 7 (.alloc [.nil,.nil,.nil,.nil]),xS 4 7 12] (.seq (kr [xm 13 4 2,xc1 14 233 (.t 13),xN 15 14,xv 16 15,zv 17 1 16,ze 18 17 16,zI 19 .gtr 18 4000 16,xQ 20 16 19] (kF 20 [xm 21 4 7,xv 22 6,xS 4 4 21,xv 5 22])) (.seq (kr [xI 8 0] (.blk 0 (.loop (.seq (kr [xv 23 8,xv 24 1,xe 25 24,bT 26 .lss 23 25] (kX 26 0)) (.seq (.blk 1 (kr [xI 9 2] (.seq (.seq (.dreg (.take 0 (xv 29 1) (.take 1 (xv 30 8) (.take 2 (xD 31 2 29 30) (.take 3 (xa 32 0 31) (.take 4 (xl 33 32) (.only 5 [] (xa 34 1 2) (.only 6 [] (xl 35 34) (.only 7 [] (xe 36 35) (.only 8 [] (bI 37 .sub 36 1) (.only 9 [4,3,2,0,1] (xc3 38 64 (.t 33) (xi 0) (.t 37)) (.done)))))))))))) (.cond 38 (kr [xI 9 3] (.seq (.dreg (.take 0 (xa 39 1 7) (.take 1 (xl 40 39) (.take 2 (xv 41 1) (.only 3 [] (xv 42 8) (.only 4 [2] (xD 43 2 41 42) (.only 5 [4,2] (xa 44 0 43) (.only 6 [5,4,2] (xl 45 44) (.only 7 [1,6,0,5,4,2] (xD 46 4 40 45) (.only 8 [7,1,6,0,5,4,2] (xa 47 3 46) (.only 9 [8,7,1,6,0,5,4,2] (xl 48 47) (.only 10 [9,8,7,1,6,0,5,4,2] (bI 49 .eql 48 0) (.done))))))))))))) (.cond 49 (.dreg (.take 0 (xm 51 4 7) (.take 1 (xv 52 1) (.only 2 [] (xv 53 8) (.only 3 [1] (xD 54 2 52 53) (.only 4 [3,1] (xm 55 2 54) (.only 5 [0,4,3,1] (xo 56 (.call 357 [true,false] [.t 51,.t 55])) (.only 6 [5,0,4,3,1] (xv 50 56) (.take 7 (xX 57 50 0) (.take 8 (xX 58 50 1) (.only 9 [0,1,7] (xS 4 7 57) (.only 10 [0,1,7,8] (xv 9 58) (.done))))))))))))) (.skip)))) (.skip))) (xr [xv 59 6,xv 60 9,xo 61 (.mkSl [xz] 1 [(0,.t 60)]),xA 62 1 8 59 61,xv 6 62])))) (xr [xv 27 8,bI 28 .add 27 1,xv 8 28])))))) (kR [xm 63 4 7,xv 64 6,xS 4 4 63,xv 5 64])))))⟩
def cX (m:qK) (l:List bB):qK×List Int:=if decide ((4000:Int)<l.length)||!qX m then (m,[]) else (eJ m l,cE m l)
def qNs (x:bB):Prop:=-(2^63)≤x.late∧x.late<2^63
theorem qAa {m:qK} {x:bB} (h:qO x.who 0 (m.cores.length-1)=false):wL m x=(m,2):=by
 have hc:xK m x.who=2:=by
  unfold xK
  rw [h]
  rfl
 unfold wL
 rw [hc]
 rfl
theorem qE5 {m:qK} {i:Nat} {late:Int} (hi:i<m.cores.length) (hc:(wL m ⟨i,late⟩).2≠0):(wL m ⟨i,late⟩).2=3:=by
 have hw:qO (i:Int) 0 ((m.cores.length:Int)-1)=true:=by rw [qM]; omega
 unfold wL at hc⊢
 simp only at hc⊢
 by_cases h0:xK m (i:Int)=0
 ·rw [if_pos h0] at hc
  exact absurd rfl hc
 rw [if_neg h0]
 show xK m (i:Int)=3
 unfold xK at h0⊢
 rw [if_pos hw] at h0⊢
 dsimp only at h0⊢
 split
 ·rfl
 ·rename_i h1
  rw [if_neg h1] at h0
  split
  ·rfl
  ·rename_i h2
   rw [if_neg h2] at h0
   exact absurd rfl h0
theorem qJi (m:qK) (l:List bB) (i:Nat) (h:i<l.length):eJ m (l.take (i+1))=(wL (eJ m (l.take i)) (l.getD i default)).1:=by
 rw [xG l default i h,qK2]
theorem qN8 (m:qK) (l:List bB) (i:Nat) (h:i<l.length):cE m (l.take (i+1))=cE m (l.take i)++[(wL (eJ m (l.take i)) (l.getD i default)).2]:=by
 rw [xG l default i h,qE7]
theorem qAv (m:qK) (l:List bB) (hm:aG m) (hl:l.length<2^40) (hx :∀x∈l,qNs x):qZ Tryz.prog num 386 [.agg (qN .bw m),.sl .bw 2 (eA l)] [] (.tup [.agg (qN .own (cX m l).1),.sl .own 1 (wK (cX m l).2)]):=by
 refine EN m386 Tryz.func192 ?_
 unfold m386
 simp only [go_sem,seval]
 refine CA [] (qD6 m hm) ?_
 try simp only [go_sem,seval]
 refine CA [] (xH m hm) ?_
 try simp only [go_sem,seval]
 cases hok:qX m
 ·have hr:cX m l=(m,[]):=by simp [cX,hok]
  rw [hr]
  try simp only [go_sem,seval,hok]
  apply wN (by simp)
  ·exact Sub.refl _
  ·simp [-List.drop_one,-gD,qN,eY]<;>(first | rfl | exact ⟨rfl,rfl⟩ | exact ⟨rfl,rfl,rfl⟩ | skip)
 try simp only [go_sem,seval,hok]
 by_cases h4:(4000:Int)<l.length
 ·have hr:cX m l=(m,[]):=by simp [cX,h4]
  rw [hr]
  try simp only [go_sem,seval,h4]
  apply wN (by simp)
  ·exact Sub.refl _
  ·simp [-List.drop_one,-gD,qN,eY]<;>(first | rfl | exact ⟨rfl,rfl⟩ | exact ⟨rfl,rfl,rfl⟩ | skip)
 have hr:cX m l=(eJ m l,cE m l):=by simp [cX,hok,h4]
 rw [hr]
 try simp only [go_sem,seval,h4]
 have hM0:=(wT m).1 hok
 have hc0:=hM0.cores
 have hn4:=hM0.n4
 have w1:IntKind.i64.wrap ((m.cores.length:Int)-1)=m.cores.length-1:=wM (by omega) (by omega)
 refine wC (ι:=Nat) (fun i=>.mk [(1,.sl .bw 2 (eA l)),(2,.ptr 10 0 0),(4,.ptr 11 0 0),(6,.ns 12 0 i),(7,.ptr 13 0 0),(8,.int .i64 i)] [(10,4,[qN .bw m]),(11,4,[[.nil,.nil,.nil,.nil]]),(12,1,wK (cE m (l.take i))),(13,4,[qN .own (eJ m (l.take i))])] 14) (fun i=>i≤l.length) (fun i=>l.length-i) 0 (by simp) ?_ ?_
 ·refine Sub.trans (Sub.fold1 17 0 13 rfl (by simp [-gD]<;>omega) rfl (by decide) (by decide) rfl) ?_
  simp only [fS,fS2,qA,qC]
  refine Sub.trans (Sub.fold1 17 1 14 rfl (by simp [-gD]<;>omega) rfl (by decide) (by decide) rfl) ?_
  simp only [fS,fS2,qA,qC]
  refine Sub.trans (Sub.fold1 17 2 15 rfl (by simp [-gD]<;>omega) rfl (by decide) (by decide) rfl) ?_
  simp only [fS,fS2,qA,qC]
  refine Sub.trans (Sub.fold1 17 3 16 rfl (by simp [-gD]<;>omega) rfl (by decide) (by decide) rfl) ?_
  simp only [fS,fS2,qA,qC]
  refine Sub.shape [] (fun n=>if n=13 then 17 else n) (by omega) ?_ ?_ ?_ ?_<;>simp [qP]
  all_goals simp [cE,eJ,wK]
 ·rintro i hi
  simp only [go_sem,seval]
  refine qS (fun hc=>?_) (fun hc=>?_)
  ·simp only [decide_eq_true_eq] at hc
   have hl':i<l.length:=by omega
   have hlt:(cE m (l.take i)).length=i:=by rw [mR]; simp; omega
   have hMk:=qBh (l.take i) hok
   have hxi:=hx _ (wX l i default hl')
   have e1:=qJi m l i hl'
   have e2:=qN8 m l i hl'
   have hlen:=(qGn m (l.take i)).1
   generalize eJ m (l.take i)=M at *
   generalize cE m (l.take i)=cds at *
   have hM:=(wT M).1 hMk
   have hpg:=qJv l i hl'
   generalize l.getD i default=x at *
   simp only [go_sem,seval,hpg,w1]
   repeat refine K ?_
   refine DA [] (jA x.who 0 (m.cores.length-1)) ?_
   try simp only [go_sem,seval]
   have hwx:qO x.who 0 (m.cores.length-1)=qO x.who 0 (M.cores.length-1):=by rw [hlen]
   cases hw:qO x.who 0 (m.cores.length-1)
   ·have hn:wL M x=(M,2):=qAa (by rw [←hwx]; exact hw)
    rw [hn] at e1 e2
    try simp only [go_sem,seval,hw,hlt,qR (i:=i) (by omega)]
    repeat refine K ?_
    refine qT (i+1) ?_ hl' (by omega)
    rw [e1,e2]
    refine Sub.shape [] (fun n=>if n=12 then 15 else n) (by omega) ?_ ?_ ?_ ?_<;>simp [qP]
    exact .inl (by simp [wK])
   rw [qM] at hw
   obtain ⟨j,hj⟩:=Int.eq_ofNat_of_zero_le hw.1
   obtain ⟨who,late⟩:=x
   simp only at hj hw
   subst hj
   have hjl:j<M.cores.length:=by omega
   have hw':qO (j:Int) 0 (m.cores.length-1)=true:=by rw [qM]; omega
   have hcg:=yL .own M.cores j hjl
   have hk:M.cores.getD j default=qJ M j:=rfl
   rw [hk] at hcg
   by_cases hst:(qJ M j).st=0
   case neg =>
    have hn:wL M ⟨j,late⟩=(M,3):=zT rfl rfl hjl (.inl (.inl hst))
    rw [hn] at e1 e2
    try simp only [go_sem,seval,hw',hlt,hst,hpg,hcg,qR (i:=i) (by omega)]
    repeat refine K ?_
    refine qT (i+1) ?_ hl' (by omega)
    rw [e1,e2]
    refine Sub.trans (Sub.fold1 13 1 14 rfl (by simp [-gD]<;>omega) rfl (by decide) (by decide) rfl) ?_
    simp only [fS,fS2,qA,qC]
    refine Sub.shape [] (fun n=>if n=12 then 16 else n) (by omega) ?_ ?_ ?_ ?_<;>simp [qP]
    exact .inl (by simp [wK])
   try simp only [go_sem,seval,hw',hlt,hst,hpg,hcg,qR (i:=i) (by omega)]
   repeat refine K ?_
   by_cases hcd:(wL M ⟨j,late⟩).2=0
   ·refine DA [(0,15),(1,14),(2,16),(3,17)] (qD5 M j late hM hjl hst hcd hxi) ?_
    try simp only [go_sem,seval]
    repeat refine K ?_
    rw [hcd] at e2
    try simp only [go_sem,seval,hlt,qR (i:=i) (by omega)]
    refine qT (i+1) ?_ hl' (by omega)
    rw [e1,e2]
    refine Sub.trans (Sub.fold1 13 0 18 rfl (by simp [-gD]<;>omega) rfl (by decide) (by decide) rfl) ?_
    simp only [fS,fS2,qA,qC]
    refine Sub.trans (Sub.fold1 13 1 19 rfl (by simp [-gD]<;>omega) rfl (by decide) (by decide) rfl) ?_
    simp only [fS,fS2,qA,qC]
    refine Sub.trans (Sub.fold1 13 2 20 rfl (by simp [-gD]<;>omega) rfl (by decide) (by decide) rfl) ?_
    simp only [fS,fS2,qA,qC]
    refine Sub.trans (Sub.fold1 13 3 21 rfl (by simp [-gD]<;>omega) rfl (by decide) (by decide) rfl) ?_
    simp only [fS,fS2,qA,qC]
    refine Sub.shape [] (fun n=>if n=12 then 23 else n) (by omega) ?_ ?_ ?_ ?_<;>simp [qP]
    exact .inl (by simp [wK])
   ·refine DA [(0,15),(1,14),(2,16),(3,17)] (qAb M j late hM hjl hst hcd hxi) ?_
    try simp only [go_sem,seval]
    repeat refine K ?_
    have hn:=qBg hcd
    have h3:=qE5 hjl hcd
    rw [hn] at e1
    rw [h3] at e2
    try simp only [go_sem,seval,hlt,qR (i:=i) (by omega)]
    refine qT (i+1) ?_ hl' (by omega)
    rw [e1,e2]
    refine Sub.trans (Sub.fold1 13 0 15 rfl (by simp [-gD]<;>omega) rfl (by decide) (by decide) rfl) ?_
    simp only [fS,fS2,qA,qC]
    refine Sub.trans (Sub.fold1 13 1 14 rfl (by simp [-gD]<;>omega) rfl (by decide) (by decide) rfl) ?_
    simp only [fS,fS2,qA,qC]
    refine Sub.trans (Sub.fold1 13 2 16 rfl (by simp [-gD]<;>omega) rfl (by decide) (by decide) rfl) ?_
    simp only [fS,fS2,qA,qC]
    refine Sub.trans (Sub.fold1 13 3 17 rfl (by simp [-gD]<;>omega) rfl (by decide) (by decide) rfl) ?_
    simp only [fS,fS2,qA,qC]
    refine Sub.shape [] (fun n=>if n=12 then 19 else n) (by omega) ?_ ?_ ?_ ?_<;>simp [qP]
    exact .inl (by simp [wK])
  ·simp only [decide_eq_false_iff_not] at hc
   obtain rfl:i=l.length:=by omega
   have hie:l.take l.length=l:=List.take_length
   have hlt:(cE m l).length=l.length:=mR _ _
   simp only [go_sem,seval,hie,hlt]
   apply wN (by simp)
   ·exact Sub.refl _
   ·simp [-List.drop_one,-gD,qN,hlt]<;>(first | rfl | exact ⟨rfl,rfl⟩ | exact ⟨rfl,rfl,rfl⟩ | skip)
def m147:MFn:=⟨10,[.t 4],kr [xI 4 0] (.seq (kr [xv 5 0,xv 6 1,bT 7 .lss 5 6] (kF 7 [xv 8 0,xv 4 8])) (kR [xv 9 1,xv 4 9]))⟩
theorem qOh (a b:Int):qZ Tryz.prog num 147 [.int .i64 a,.int .i64 b] [] (.int .i64 (if a<b then a else b)):=by
 refine EN m147 Tryz.func102 ?_
 unfold m147
 by_cases h:a<b
 ·simp only [go_sem,seval,h]
  refine fz ?_; simp [wJ,wA,wB,qY,-List.drop_one]
 ·simp only [go_sem,seval,h]
  refine fz ?_; simp [wJ,wA,wB,qY,-List.drop_one]
end Go.Sep
