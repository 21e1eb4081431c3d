/- Contracts of functions. -/
import Derived.Test.YtebbppogicgpkaaGreatUxx21
import Derived.Test.YtebbppogicgpkaaGreatUxx23
import Derived.Test.YtebbppogicgpkaaGreatUxx25
import Derived.Test.YtebbppogicgpkaaGreatUxx9
open List renaming drop_one → qZ8
namespace Go.Sep
set_option maxHeartbeats 16000000
open Go.Proofs
set_option linter.unusedSimpArgs false
set_option linter.unusedVariables false
set_option maxRecDepth 100000
open Nat renaming reduceAdd → qA, reduceMul → qB, reduceEqDiff → qC, reduceBEq → qD
open Int renaming reduceToNat → qE, reduceEq → qF, reduceLT → qG, reduceLE → qH
open List renaming getD_eq_getElem?_getD → gD
def pX (x:uF):Prop:=-(2^63)≤x.late∧x.late<2^63
theorem qHj {m:qY} {x:uF} (h:qL x.who 0 (m.cores.length-1)=false):yG m x=(m,2):=by
 have hc:aM m x.who=2:=by
  unfold aM
  rw [h]
  rfl
 unfold yG
 rw [hc]
 rfl
theorem qNr {m:qY} {i:Nat} {late:Int} (hi:i<m.cores.length) (hc:(yG m ⟨i,late⟩).2≠0):(yG m ⟨i,late⟩).2=3:=by
 have hw:qL (i:Int) 0 ((m.cores.length:Int)-1)=true:=by rw [qO]; omega
 unfold yG at hc⊢
 simp only at hc⊢
 by_cases h0:aM m (i:Int)=0
 ·rw [if_pos h0] at hc
  exact absurd rfl hc
 rw [if_neg h0]
 show aM m (i:Int)=3
 unfold aM at h0⊢
 rw [if_pos hw] at h0⊢
 dsimp only at h0⊢
 split
 ·rfl
 ·rename_i h1
  rw [if_neg h1] at h0
  split
  ·rfl
  ·rename_i h2
   rw [if_neg h2] at h0
   exact absurd rfl h0
theorem qK5 (m:qY) (l:List uF) (i:Nat) (h:i<l.length):cO m (l.take (i+1))=(yG (cO m (l.take i)) (l.getD i default)).1:=by
 rw [uZ l default i h,qKl]
def m145:MFn:=⟨52,[.cell 6 3 true,.t 7],kr [xb 3 0,xb 4 1,xo 6 (.alloc [.nil,.nil,.nil]),xo 7 (.mv (.c (.nil)))] (kr [xo 13 (.mkSl [xz] 0 []),xv 8 13] (kr [xm 14 3 4,xc1 15 65 (.t 14),xo 9 (.alloc [.nil,.nil,.nil]),xS 3 9 15] (.seq (kr [xm 16 2 3,xm 17 3 4,xc2 18 63 (.t 16) (.t 17),xN 19 18,xv 20 19,zv 21 2 20,ze 22 21 20,zI 23 .gtr 22 4000 20,xQ 24 20 23] (kF 24 [xm 25 3 9,xv 26 8,xS 3 6 25,xv 7 26])) (.seq (kr [xI 10 0] (.blk 0 (.loop (.seq (kr [xv 27 10,xv 28 2,xe 29 28,bT 30 .lss 27 29] (kX 30 0)) (.seq (.blk 1 (.seq (.dreg (.take 0 (xm 34 2 3) (.take 1 (xm 35 3 9) (.take 2 (xv 36 2) (.take 3 (xv 37 10) (.take 4 (xD 38 1 36 37) (.take 5 (xl 39 38) (.both 6 [0,1,5,4,2,3] (xc3 40 46 (.t 34) (.t 35) (.t 39)) (.take 7 (xv 33 40) (.take 8 (xX 41 33 0) (.take 9 (xX 42 33 1) (.only 10 [] (xo 11 (.alloc [.nil,.nil,.nil])) (.only 11 [0,1,2,3,4,5,7,8] (xS 3 11 41) (.only 12 [0,1,2,3,4,5,7,8,9] (xv 12 42) (.done))))))) 10 [] (xo 11 (.alloc [.nil,.nil,.nil])) (.only 6 [0,1,5,4,2,3] (xc3 40 46 (.t 34) (.t 35) (.t 39)) (.only 7 [6,0,1,5,4,2,3] (xv 33 40) (.take 8 (xX 41 33 0) (.take 9 (xX 42 33 1) (.only 11 [0,1,2,3,4,5,8] (xS 3 11 41) (.only 12 [0,1,2,3,4,5,8,9] (xv 12 42) (.done))))))))))))))) (kr [xv 43 8,xv 44 12,xo 45 (.mkSl [xz] 1 [(0,.t 44)]),xA 46 1 8 43 45,xv 8 46] (kr [xv 47 12,bI 48 .eql 47 0] (.cond 48 (xr [xm 49 3 11,xS 3 9 49]) (.skip)))))) (xr [xv 31 10,bI 32 .add 31 1,xv 10 32])))))) (kR [xm 50 3 9,xv 51 8,xS 3 6 50,xv 7 51])))))⟩
theorem rY {p:wV} {s:wL} {who:Int} (h :¬(wP p s who).2=0):(wP p s who).1=s:=by
 unfold wP at h⊢
 split
 ·rename_i hc
  rw [if_pos hc] at h
  exact absurd rfl h
 ·rfl
theorem qDk (p:wV) (s:wL) (picks:List Int) (hp:uD p) (hs:iF s) (h4:picks.length<2^40) :
  qU Tryz.prog num 145 [.agg (jA .bw p),.agg (yM .bw s),.sl .bw 1 (wS picks)] [] (.tup [.agg (yM .own (gY p s picks).1),.sl .own 1 (wS (gY p s picks).2)]):=by
 refine EN m145 Tryz.func163 ?_
 unfold m145
 simp only [go_sem,seval]
 refine CA [] (fO s hs) ?_
 try simp only [go_sem,seval]
 refine CA [] (kY p s hp hs) ?_
 try simp only [go_sem,seval]
 cases hok:wO p s
 ·try simp only [go_sem,seval,hok]
  apply wG (by simp)
  ·exact Sub.refl _
  ·simp [-qZ8,-gD,gY,hok,uA]<;>(first | rfl | exact ⟨rfl,rfl⟩ | exact ⟨rfl,rfl,rfl⟩ | skip)
 by_cases hl:(4000:Int)<picks.length
 ·have hl' :¬(picks.length:Int)≤4000:=by omega
  try simp only [go_sem,seval,hok,hl]
  apply wG (by simp)
  ·exact Sub.refl _
  ·simp [-qZ8,-gD,gY,hl',uA]<;>(first | rfl | exact ⟨rfl,rfl⟩ | exact ⟨rfl,rfl,rfl⟩ | skip)
 have hl':(picks.length:Int)≤4000:=by omega
 try simp only [go_sem,seval,hok,hl]
 refine wC (ι:=Nat) (fun i=>.mk [(2,.sl .bw 1 (wS picks)),(3,.ptr 10 0 0),(6,.ptr 12 0 0),(8,.ns 13 0 i),(9,.ptr 17 0 0),(10,.int .i64 i)] [(10,2,[jA .bw p]),(12,3,[[.nil,.nil,.nil]]),(13,1,wS ((picks.take i).foldl (uT p) (s,[])).2),(17,3,[yM .own ((picks.take i).foldl (uT p) (s,[])).1])] 18) (fun i=>i≤picks.length) (fun i=>picks.length-i) 0 (by simp) ?_ ?_
 ·refine Sub.trans (Sub.fold1 17 0 14 rfl (by simp [-gD]<;>omega) rfl (by decide) (by decide) rfl) ?_
  simp only [fS,qA,qC]
  refine Sub.trans (Sub.fold1 17 1 15 rfl (by simp [-gD]<;>omega) rfl (by decide) (by decide) rfl) ?_
  simp only [fS,qA,qC]
  refine Sub.trans (Sub.fold1 17 2 16 rfl (by simp [-gD]<;>omega) rfl (by decide) (by decide) rfl) ?_
  simp only [fS,qA,qC]
  refine Sub.shape [] id (by omega) ?_ ?_ ?_ ?_<;>simp [qM]
  exact .inl rfl
 ·intro i hi
  have hr:=qB8 hok picks i hi
  have hstep:=fun h=>qNc p picks i h (s,[])
  have hfin :¬(i:Int)<picks.length→(picks.take i).foldl (uT p) (s,[])=qWk p s picks:=fun h=>by rw [List.take_of_length_le (by omega)]; rfl
  generalize (picks.take i).foldl (uT p) (s,[])=st at hr hstep hfin
  obtain ⟨hso,hlen⟩:=hr
  have hss:=oO hso
  simp only [go_sem,seval]
  refine qP (fun hc=>?_) (fun hc=>?_)
  ·simp only [decide_eq_true_eq] at hc
   have hl2:i<picks.length:=by omega
   have e:vU p st.1 (picks.getD i 0)=wP p st.1 (picks.getD i 0):=by unfold vU; rw [if_pos hso]
   simp only [go_sem,seval,qI picks i hl2]
   repeat refine K ?_
   refine ⟨?_,?_⟩
   ·skip
    refine DA [] (mZ p st.1 (picks.getD i 0) hp hss) ?_
    try simp only [go_sem,seval]
    repeat refine K ?_
    try simp only [go_sem,seval,e,qV (i:=i) (by omega),hlen]
    by_cases hcode:(wP p st.1 (picks.getD i 0)).2=0
    ·try simp only [go_sem,seval,hcode,qV (i:=i) (by omega),hlen]
     refine qW (i+1) ?_ hl2 (by omega)
     simp only [hstep hl2,uT,hcode]
     refine Sub.trans (Sub.fold1 17 0 21 rfl (by simp [-gD]<;>omega) rfl (by decide) (by decide) rfl) ?_
     simp only [fS,qA,qC]
     refine Sub.trans (Sub.fold1 17 1 22 rfl (by simp [-gD]<;>omega) rfl (by decide) (by decide) rfl) ?_
     simp only [fS,qA,qC]
     refine Sub.trans (Sub.fold1 17 2 23 rfl (by simp [-gD]<;>omega) rfl (by decide) (by decide) rfl) ?_
     simp only [fS,qA,qC]
     refine Sub.shape [] (fun n=>if n=13 then 26 else n) (by omega) ?_ ?_ ?_ ?_<;>simp [qM]
     all_goals exact .inl (lX _ _)
    ·try simp only [go_sem,seval,hcode,qV (i:=i) (by omega),hlen]
     refine qW (i+1) ?_ hl2 (by omega)
     simp only [hstep hl2,uT,rY hcode]
     refine Sub.trans (Sub.fold1 17 0 18 rfl (by simp [-gD]<;>omega) rfl (by decide) (by decide) rfl) ?_
     simp only [fS,qA,qC]
     refine Sub.trans (Sub.fold1 17 1 19 rfl (by simp [-gD]<;>omega) rfl (by decide) (by decide) rfl) ?_
     simp only [fS,qA,qC]
     refine Sub.trans (Sub.fold1 17 2 20 rfl (by simp [-gD]<;>omega) rfl (by decide) (by decide) rfl) ?_
     simp only [fS,qA,qC]
     refine Sub.shape [] (fun n=>if n=13 then 26 else n) (by omega) ?_ ?_ ?_ ?_<;>simp [qM]
     all_goals exact .inl (lX _ _)
   ·repeat refine K ?_
    refine DA [] (mZ p st.1 (picks.getD i 0) hp hss) ?_
    try simp only [go_sem,seval]
    repeat refine K ?_
    try simp only [go_sem,seval,e,qV (i:=i) (by omega),hlen]
    by_cases hcode:(wP p st.1 (picks.getD i 0)).2=0
    ·try simp only [go_sem,seval,hcode,qV (i:=i) (by omega),hlen]
     refine qW (i+1) ?_ hl2 (by omega)
     simp only [hstep hl2,uT,hcode]
     refine Sub.trans (Sub.fold1 17 0 22 rfl (by simp [-gD]<;>omega) rfl (by decide) (by decide) rfl) ?_
     simp only [fS,qA,qC]
     refine Sub.trans (Sub.fold1 17 1 23 rfl (by simp [-gD]<;>omega) rfl (by decide) (by decide) rfl) ?_
     simp only [fS,qA,qC]
     refine Sub.trans (Sub.fold1 17 2 24 rfl (by simp [-gD]<;>omega) rfl (by decide) (by decide) rfl) ?_
     simp only [fS,qA,qC]
     refine Sub.shape [] (fun n=>if n=13 then 26 else n) (by omega) ?_ ?_ ?_ ?_<;>simp [qM]
     all_goals exact .inl (lX _ _)
    ·try simp only [go_sem,seval,hcode,qV (i:=i) (by omega),hlen]
     refine qW (i+1) ?_ hl2 (by omega)
     simp only [hstep hl2,uT,rY hcode]
     refine Sub.trans (Sub.fold1 17 0 18 rfl (by simp [-gD]<;>omega) rfl (by decide) (by decide) rfl) ?_
     simp only [fS,qA,qC]
     refine Sub.trans (Sub.fold1 17 1 19 rfl (by simp [-gD]<;>omega) rfl (by decide) (by decide) rfl) ?_
     simp only [fS,qA,qC]
     refine Sub.trans (Sub.fold1 17 2 20 rfl (by simp [-gD]<;>omega) rfl (by decide) (by decide) rfl) ?_
     simp only [fS,qA,qC]
     refine Sub.shape [] (fun n=>if n=13 then 26 else n) (by omega) ?_ ?_ ?_ ?_<;>simp [qM]
     all_goals exact .inl (lX _ _)
  ·simp only [decide_eq_false_iff_not] at hc
   have hf:=hfin hc
   simp only [go_sem,seval]
   apply wG (by simp)
   ·exact Sub.refl _
   ·simp [-qZ8,-gD,gY,hok,hl',hlen,←hf]<;>(first | rfl | exact ⟨rfl,rfl⟩ | exact ⟨rfl,rfl,rfl⟩ | skip)
def m428:MFn:=⟨57,[.t 6,.t 7],kr [xb 3 0,xb 5 2,xI 6 0,xF 7] (.seq (kr [xv 10 1,xa 11 0 5,xl 12 11,xc2 13 229 (.t 10) (.t 12),xN 14 13] (kF 14 [xI 6 2,xF 7])) (.seq (.dreg (.take 0 (xv 15 1) (.take 1 (xk 16 15) (.take 2 (xa 17 1 16) (.take 3 (xl 18 17) (.only 4 [] (xa 19 0 5) (.only 5 [] (xl 20 19) (.only 6 [3,2,1,0] (xD 21 4 18 20) (.only 7 [6,3,2,1,0] (xa 22 0 21) (.only 8 [7,6,3,2,1,0] (xl 23 22) (.only 9 [0,1,2,3] (xv 8 23) (.done)))))))))))) (kr [xv 24 1,xm 25 2 5,xo 26 (.call 359 [true,false] [.t 24,.t 25]),xv 9 26] (.seq (.dreg (.take 0 (xv 27 9) (.only 1 [] (xv 28 9) (.only 2 [] (bI 29 .eql 28 0) (.only 3 [] (xv 30 29) (.take 4 (xg 31 (.load 2 true (.t 3)) 30 true) (.take 5 (yv 32 1 30) (.take 6 (xg 33 (.nilck (.t 32)) 30 true) (.take 7 (ya 34 0 33 30) (.take 8 (yl 35 1 34 30) (.take 9 (ya 36 0 5 30) (.take 10 (yl 37 1 36 30) (.take 11 (xg 38 (.iad 1 (.t 35) (.t 37)) 30 true) (.take 12 (yl 39 1 38 30) (.take 13 (yv 40 8 30) (.take 14 (xg 41 (.iad 5 (.t 39) (.t 40)) 30 true) (.take 15 (xg 42 (.load 5 true (.t 41)) 30 true) (.take 16 (yv 43 1 30) (.take 17 (xg 44 (.nilck (.t 43)) 30 true) (.take 18 (ya 45 1 44 30) (.take 19 (yl 46 1 45 30) (.take 20 (ya 47 0 5 30) (.take 21 (yl 48 1 47 30) (.take 22 (xg 49 (.iad 4 (.t 46) (.t 48)) 30 true) (.take 23 (ya 50 1 49 30) (.take 24 (yl 51 1 50 30) (.take 25 (ya 52 0 5 30) (.take 26 (yl 53 1 52 30) (.only 27 [] (yv 54 8 30) (.only 28 [4,15,24,26,14,23,25,12,13,22,11,19,21,8,10,18,20,7,9,17,6,16,5] (xg 55 (.call 236 [false,false,false,false,false] [.t 31,.t 42,.t 51,.t 53,.t 54]) 30 true) (.take 29 (xP 56 30 55) (.only 30 [0,28,4,15,24,26,14,23,25,12,13,22,11,19,21,8,10,18,20,7,9,17,6,16,5] (xv 6 27) (.only 31 [0,4,5,6,7,8,9,10,11,12,13,14,15,16,17,18,19,20,21,22,23,24,25,26,29] (xv 7 56) (.done)))))))))))))))))))))))))))))))))) (.ret)))))⟩
theorem qEg (p:wV) (m:qY) (x:uF) (hp:uD p) (h:jJ m=true) (hx:pX x):qU Tryz.prog num 428 [.agg (jA .bw p),.ptr 0 0 0,.agg (mJ x)] [(0,some (4,[qX .own m]),some (4,[qX .own (yG m x).1]))] (.tup [.int .i64 (yG m x).2,.bool (did p m x)]):=by
 refine EH m428 Tryz.func67 ?_
 unfold m428
 have hM:=(jM m).1 h
 have hc0:=hM.cores
 have hn4:=hM.n4
 simp only [go_sem,seval]
 refine CA [] (qEf m x.who (by omega)) ?_
 try simp only [go_sem,seval]
 cases hw:qL x.who 0 (m.cores.length-1)
 ·have hn:yG m x=(m,2):=qHj hw
  have hd:did p m x=false:=by unfold did; rw [hn]; rfl
  rw [hn,hd]
  try simp only [go_sem,seval,hw]
  apply wG (by simp)
  ·exact Sub.refl _
  ·simp [-qZ8,-gD,qX]<;>(first | rfl | exact ⟨rfl,rfl⟩ | exact ⟨rfl,rfl,rfl⟩ | skip)
 have hw':=qO.1 hw
 obtain ⟨j,hj⟩:=Int.eq_ofNat_of_zero_le hw'.1
 obtain ⟨who,late⟩:=x
 simp only at hj hw'
 subst hj
 have hjl:j<m.cores.length:=by omega
 have hcg:=vC .own m.cores j hjl
 have hk:m.cores.getD j default=qJ m j:=rfl
 rw [hk] at hcg
 try simp only [go_sem,seval,hw,hcg]
 repeat refine K ?_
 apply uX
 ·refine Sub.trans (Sub.fold1 0 1 12 rfl (by simp [-gD]<;>omega) rfl (by decide) (by decide) rfl) ?_
  simp only [fS,fS2,qA,qC]
  exact Sub.refl _
 refine CA [(0,0)] (qOg m ⟨j,late⟩ h hx) ?_
 try simp only [go_sem,seval]
 have hMs:=mL ⟨j,late⟩ h
 have hlen:=qEa m ⟨j,late⟩
 have hdid:did p m ⟨j,late⟩=(decide ((yG m ⟨j,late⟩).2=0)&&zT p (wD m j) (qJ (yG m ⟨j,late⟩).1 j).regs j (qJ m j).at_):=rfl
 rw [hdid]
 have hK:=hM.core j hjl
 have e1:=hK.at0
 have e2:=hK.at1
 have hcdj:j<m.codes.length:=by omega
 have hat:(qJ m j).at_.toNat<(m.codes.getD j []).length:=by omega
 have hsg:=aS (m.codes.getD j []) (qJ m j).at_.toNat hat
 have hss:(m.codes.getD j []).getD (qJ m j).at_.toNat default=wD m j:=rfl
 rw [hss] at hsg
 generalize yG m ⟨j,late⟩=w at *
 obtain ⟨M,code⟩:=w
 simp only at hMs hlen⊢
 obtain ⟨hl1,hl2⟩:=hlen
 have hM2:=(jM M).1 hMs
 have hjl2:j<M.cores.length:=by omega
 have hcdj2:j<M.codes.length:=by rw [hl2]; exact hcdj
 have hcg2:=vC .own M.cores j hjl2
 have hk2:M.cores.getD j default=qJ M j:=rfl
 rw [hk2] at hcg2
 have hdg2:=aW .own M.codes j hcdj2
 rw [hl2] at hdg2
 have hr8:=(hM2.core j hjl2).regs
 by_cases hcd:code=0
 case neg =>
  have hd:decide (code=0)=false:=by simpa using hcd
  rw [hd,Bool.false_and]
  try simp only [go_sem,seval,hcd]
  apply wG (by simp)
  ·exact Sub.refl _
  ·simp [-qZ8,-gD,qX]<;>(first | rfl | exact ⟨rfl,rfl⟩ | exact ⟨rfl,rfl,rfl⟩ | skip)
 have hd:decide (code=0)=true:=by simpa using hcd
 rw [hd,Bool.true_and]
 subst hcd
 have hdself:(codes .own m.codes).set j [.sl .own 5 (jE (m.codes.getD j []))]=codes .own m.codes:=by rw [←hdg2,wR _ _ _ (by rw [gH]; exact hcdj)]
 have hcself:(cores .own M.cores).set j [.int .i64 (qJ M j).at_,.sl .own 1 (wS (qJ M j).regs),.sl .own 1 (wS (qJ M j).view),.int .i64 (qJ M j).st]=cores .own M.cores:=by rw [←hcg2,wR _ _ _ (by rw [jV]; exact hjl2)]
 try simp only [go_sem,seval,hcg2,hdg2,hsg,hl2]
 repeat refine K ?_
 refine DA [] (qEk p (wD m j) (qJ M j).regs j (qJ m j).at_ hp (by omega) (by omega)) ?_
 try simp only [go_sem,seval]
 apply wG (by simp)
 ·repeat' ((first | refine FB 13 0 ?_ | refine FB 15 1 ?_ | refine F2 0 0 ?_ | refine F2 0 1 ?_ | fail); simp only [fS,fS2,fS2,qA,qC,hdself,hcself])
  exact Sub.refl _
 ·simp [-qZ8,-gD,qX,hl2]<;>(first | rfl | exact ⟨rfl,rfl⟩ | exact ⟨rfl,rfl,rfl⟩ | skip)
end Go.Sep
