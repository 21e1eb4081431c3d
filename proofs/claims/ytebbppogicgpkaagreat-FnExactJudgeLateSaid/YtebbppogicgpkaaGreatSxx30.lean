/- Contracts of functions. -/
import Derived.Test.YtebbppogicgpkaaGreatSxx13
import Derived.Test.YtebbppogicgpkaaGreatSxx25
import Derived.Test.YtebbppogicgpkaaGreatSxx27
import Derived.Test.YtebbppogicgpkaaGreatSxx29
namespace Go.Sep
set_option maxHeartbeats 16000000
open Go.Proofs
set_option linter.unusedSimpArgs false
set_option linter.unusedVariables false
set_option maxRecDepth 100000
open Nat renaming reduceAdd → qA, reduceMul → qB, reduceEqDiff → qC, reduceBEq → qD
open Int renaming reduceToNat → qE, reduceEq → qF, reduceLT → qG, reduceLE → qH
open List renaming getD_eq_getElem?_getD → gD
def tT (x:vD):Prop:=-(2^63)≤x.late∧x.late<2^63
theorem qJa {m:qO} {x:vD} (h:qP x.who 0 (m.cores.length-1)=false):wZ m x=(m,2):=by
 have hc:aS m x.who=2:=by
  unfold aS
  rw [h]
  rfl
 unfold wZ
 rw [hc]
 rfl
theorem qQp {m:qO} {i:Nat} {late:Int} (hi:i<m.cores.length) (hc:(wZ m ⟨i,late⟩).2≠0):(wZ m ⟨i,late⟩).2=3:=by
 have hw:qP (i:Int) 0 ((m.cores.length:Int)-1)=true:=by rw [qN]; omega
 unfold wZ at hc⊢
 simp only at hc⊢
 by_cases h0:aS m (i:Int)=0
 ·rw [if_pos h0] at hc
  exact absurd rfl hc
 rw [if_neg h0]
 show aS m (i:Int)=3
 unfold aS at h0⊢
 rw [if_pos hw] at h0⊢
 dsimp only at h0⊢
 split
 ·rfl
 ·rename_i h1
  rw [if_neg h1] at h0
  split
  ·rfl
  ·rename_i h2
   rw [if_neg h2] at h0
   exact absurd rfl h0
theorem qMi (m:qO) (l:List vD) (i:Nat) (h:i<l.length):aV m (l.take (i+1))=(wZ (aV m (l.take i)) (l.getD i default)).1:=by
 rw [bO l default i h,qN0]
def m428:MFn:=⟨57,[.t 6,.t 7],kr [xb 3 0,xb 5 2,xI 6 0,xF 7] (.seq (kr [xv 10 1,xa 11 0 5,xl 12 11,xc2 13 229 (.t 10) (.t 12),xN 14 13] (kF 14 [xI 6 2,xF 7])) (.seq (.dreg (.take 0 (xv 15 1) (.take 1 (xk 16 15) (.take 2 (xa 17 1 16) (.take 3 (xl 18 17) (.only 4 [] (xa 19 0 5) (.only 5 [] (xl 20 19) (.only 6 [3,2,1,0] (xD 21 4 18 20) (.only 7 [6,3,2,1,0] (xa 22 0 21) (.only 8 [7,6,3,2,1,0] (xl 23 22) (.only 9 [0,1,2,3] (xv 8 23) (.done)))))))))))) (kr [xv 24 1,xm 25 2 5,xo 26 (.call 359 [true,false] [.t 24,.t 25]),xv 9 26] (.seq (.dreg (.take 0 (xv 27 9) (.only 1 [] (xv 28 9) (.only 2 [] (bI 29 .eql 28 0) (.only 3 [] (xv 30 29) (.take 4 (xg 31 (.load 2 true (.t 3)) 30 true) (.take 5 (yv 32 1 30) (.take 6 (xg 33 (.nilck (.t 32)) 30 true) (.take 7 (ya 34 0 33 30) (.take 8 (yl 35 1 34 30) (.take 9 (ya 36 0 5 30) (.take 10 (yl 37 1 36 30) (.take 11 (xg 38 (.iad 1 (.t 35) (.t 37)) 30 true) (.take 12 (yl 39 1 38 30) (.take 13 (yv 40 8 30) (.take 14 (xg 41 (.iad 5 (.t 39) (.t 40)) 30 true) (.take 15 (xg 42 (.load 5 true (.t 41)) 30 true) (.take 16 (yv 43 1 30) (.take 17 (xg 44 (.nilck (.t 43)) 30 true) (.take 18 (ya 45 1 44 30) (.take 19 (yl 46 1 45 30) (.take 20 (ya 47 0 5 30) (.take 21 (yl 48 1 47 30) (.take 22 (xg 49 (.iad 4 (.t 46) (.t 48)) 30 true) (.take 23 (ya 50 1 49 30) (.take 24 (yl 51 1 50 30) (.take 25 (ya 52 0 5 30) (.take 26 (yl 53 1 52 30) (.only 27 [] (yv 54 8 30) (.only 28 [4,15,24,26,14,23,25,12,13,22,11,19,21,8,10,18,20,7,9,17,6,16,5] (xg 55 (.call 236 [false,false,false,false,false] [.t 31,.t 42,.t 51,.t 53,.t 54]) 30 true) (.take 29 (xP 56 30 55) (.only 30 [0,28,4,15,24,26,14,23,25,12,13,22,11,19,21,8,10,18,20,7,9,17,6,16,5] (xv 6 27) (.only 31 [0,4,5,6,7,8,9,10,11,12,13,14,15,16,17,18,19,20,21,22,23,24,25,26,29] (xv 7 56) (.done)))))))))))))))))))))))))))))))))) (.ret)))))⟩
def qGg (p:wM) (M:qO) (i:Nat):Bool:=decide ((qJ M i).st=0)&&!qHp p M i
def rst (p:wM) (i:Nat):Nat→qO→qO
 | 0,M=>M
 | n+1,M=>if qGg p M i then rst p i n (wZ M ⟨i,0⟩).1 else M
def qIl (p:wM) (l:List Nat) (M:qO):qO:=l.foldl (fun M i=>rst p i 40 M) M
theorem pW (p:wM) (m:qO) (x:vD) (hp:bF p) (h:wP m=true) (hx:tT x):qW Tryz.prog num 428 [.agg (jF .bw p),.ptr 0 0 0,.agg (cY x)] [(0,some (4,[qR .own m]),some (4,[qR .own (wZ m x).1]))] (.tup [.int .i64 (wZ m x).2,.bool (did p m x)]):=by
 refine EH m428 Tryz.func67 ?_
 unfold m428
 have hM:=(yO m).1 h
 have hc0:=hM.cores
 have hn4:=hM.n4
 simp only [go_sem,seval]
 refine CA [] (qB7 m x.who (by omega)) ?_
 try simp only [go_sem,seval]
 cases hw:qP x.who 0 (m.cores.length-1)
 ·have hn:wZ m x=(m,2):=qJa hw
  have hd:did p m x=false:=by unfold did; rw [hn]; rfl
  rw [hn,hd]
  try simp only [go_sem,seval,hw]
  apply wS (by simp)
  ·exact Sub.refl _
  ·simp [-List.drop_one,-gD,qR]<;>(first | rfl | exact ⟨rfl,rfl⟩ | exact ⟨rfl,rfl,rfl⟩ | skip)
 have hw':=qN.1 hw
 obtain ⟨j,hj⟩:=Int.eq_ofNat_of_zero_le hw'.1
 obtain ⟨who,late⟩:=x
 simp only at hj hw'
 subst hj
 have hjl:j<m.cores.length:=by omega
 have hcg:=jR .own m.cores j hjl
 have hk:m.cores.getD j default=qJ m j:=rfl
 rw [hk] at hcg
 try simp only [go_sem,seval,hw,hcg]
 repeat refine K ?_
 apply zX
 ·refine Sub.trans (Sub.fold1 0 1 12 rfl (by simp [-gD]<;>omega) rfl (by decide) (by decide) rfl) ?_
  simp only [fS,fS2,qA,qC]
  exact Sub.refl _
 refine CA [(0,0)] (qGq m ⟨j,late⟩ h hx) ?_
 try simp only [go_sem,seval]
 have hMs:=aA ⟨j,late⟩ h
 have hlen:=iZ m ⟨j,late⟩
 have hdid:did p m ⟨j,late⟩=(decide ((wZ m ⟨j,late⟩).2=0)&&zU p (wB m j) (qJ (wZ m ⟨j,late⟩).1 j).regs j (qJ m j).at_):=rfl
 rw [hdid]
 have hK:=hM.core j hjl
 have e1:=hK.at0
 have e2:=hK.at1
 have hcdj:j<m.codes.length:=by omega
 have hat:(qJ m j).at_.toNat<(m.codes.getD j []).length:=by omega
 have hsg:=aY (m.codes.getD j []) (qJ m j).at_.toNat hat
 have hss:(m.codes.getD j []).getD (qJ m j).at_.toNat default=wB m j:=rfl
 rw [hss] at hsg
 generalize wZ m ⟨j,late⟩=w at *
 obtain ⟨M,code⟩:=w
 simp only at hMs hlen⊢
 obtain ⟨hl1,hl2⟩:=hlen
 have hM2:=(yO M).1 hMs
 have hjl2:j<M.cores.length:=by omega
 have hcdj2:j<M.codes.length:=by rw [hl2]; exact hcdj
 have hcg2:=jR .own M.cores j hjl2
 have hk2:M.cores.getD j default=qJ M j:=rfl
 rw [hk2] at hcg2
 have hdg2:=aJ .own M.codes j hcdj2
 rw [hl2] at hdg2
 have hr8:=(hM2.core j hjl2).regs
 by_cases hcd:code=0
 case neg =>
  have hd:decide (code=0)=false:=by simpa using hcd
  rw [hd,Bool.false_and]
  try simp only [go_sem,seval,hcd]
  apply wS (by simp)
  ·exact Sub.refl _
  ·simp [-List.drop_one,-gD,qR]<;>(first | rfl | exact ⟨rfl,rfl⟩ | exact ⟨rfl,rfl,rfl⟩ | skip)
 have hd:decide (code=0)=true:=by simpa using hcd
 rw [hd,Bool.true_and]
 subst hcd
 have hdself:(codes .own m.codes).set j [.sl .own 5 (yH (m.codes.getD j []))]=codes .own m.codes:=by rw [←hdg2,wR _ _ _ (by rw [gC]; exact hcdj)]
 have hcself:(cores .own M.cores).set j [.int .i64 (qJ M j).at_,.sl .own 1 (wN (qJ M j).regs),.sl .own 1 (wN (qJ M j).view),.int .i64 (qJ M j).st]=cores .own M.cores:=by rw [←hcg2,wR _ _ _ (by rw [jO]; exact hjl2)]
 try simp only [go_sem,seval,hcg2,hdg2,hsg,hl2]
 repeat refine K ?_
 refine DA [] (qFu p (wB m j) (qJ M j).regs j (qJ m j).at_ hp (by omega) (by omega)) ?_
 try simp only [go_sem,seval]
 apply wS (by simp)
 ·repeat' ((first | refine FB 13 0 ?_ | refine FB 15 1 ?_ | refine F2 0 0 ?_ | refine F2 0 1 ?_ | fail); simp only [fS,fS2,fS2,qA,qC,hdself,hcself])
  exact Sub.refl _
 ·simp [-List.drop_one,-gD,qR,hl2]<;>(first | rfl | exact ⟨rfl,rfl⟩ | exact ⟨rfl,rfl,rfl⟩ | skip)
end Go.Sep
