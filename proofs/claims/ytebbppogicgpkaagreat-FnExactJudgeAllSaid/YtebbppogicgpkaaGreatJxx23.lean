/- Contracts of functions. -/
import Derived.Test.YtebbppogicgpkaaGreatJxx19
import Derived.Test.YtebbppogicgpkaaGreatJxx21
open List renaming drop_one → qYj, take_of_length_le → qX3
namespace Go.Sep
set_option maxHeartbeats 16000000
open Go.Proofs
set_option linter.unusedSimpArgs false
set_option linter.unusedVariables false
set_option maxRecDepth 100000
open Nat renaming reduceAdd → qA, reduceMul → qB, reduceEqDiff → qC, reduceBEq → qD
open Int renaming reduceToNat → qE, reduceEq → qF, reduceLT → qG, reduceLE → qH
open List renaming getD_eq_getElem?_getD → gD
def m367:MFn:=⟨30,[.t 4,.t 5],kr [xb 3 1,xI 4 0,xF 5] (kr [xa 7 4 3,xl 8 7,xv 6 8] (.seq (kr [xa 9 0 3,xl 10 9,bI 11 .neq 10 8,xv 12 11,ya 13 2 3 12,yl 14 1 13 12,yI 15 .geq 14 0 12,xP 16 12 15] (.cond 16 (.dreg (.take 0 (xv 17 6) (.take 1 (xv 18 0) (.take 2 (xk 19 18) (.take 3 (xa 20 1 19) (.take 4 (xl 21 20) (.only 5 [] (xa 22 2 3) (.only 6 [] (xl 23 22) (.only 7 [4,3,2,1] (xD 24 1 21 23) (.only 8 [7,4,3,2,1] (xl 25 24) (.only 9 [0,8,7,4,3,2,1] (bT 26 .add 17 25) (.only 10 [0,1,2,3,4] (xv 6 26) (.done))))))))))))) (.skip))) (kR [xv 27 6,xv 28 6,xc1 29 311 (.t 28),xv 4 27,xv 5 29])))⟩
def m369:MFn:=⟨105,[],kr [xb 7 2] (kr [xa 14 0 7,xl 15 14] (.blk 0 (kr [bI 40 .eql 15 5,xv 39 40] (.cond 39 (.seq (.dreg (.take 0 (xv 42 0) (.take 1 (xk 43 42) (.take 2 (xa 44 2 43) (.take 3 (xv 45 1) (.take 4 (xk 46 45) (.take 5 (xa 47 2 46) (.take 6 (xl 48 47) (.take 7 (xv 49 3) (.only 8 [] (xv 50 4) (.only 9 [2,6,7,1,5,0,4,3] (xo 51 (.call 377 [true,true,false,false,false] [.t 44,.t 48,.t 49,.t 50,.c (.bool false)])) (.only 10 [9,2,6,7,1,5,0,4,3] (xv 41 51) (.take 11 (xX 52 41 0) (.take 12 (xX 53 41 1) (.only 13 [0,1,2,3,4,5,6,7,11] (xv 10 52) (.only 14 [0,1,2,3,4,5,6,7,11,12] (xv 11 53) (.done))))))))))))))))) (.dreg (.take 0 (xv 54 1) (.take 1 (xk 55 54) (.take 2 (xa 56 1 55) (.take 3 (xl 57 56) (.take 4 (xa 58 1 7) (.take 5 (xl 59 58) (.take 6 (xv 60 1) (.take 7 (xv 61 10) (.take 8 (xv 62 11) (.only 9 [0,1,2,3,4,5,7] (xD 63 1 57 59) (.only 10 [0,1,2,3,4,5,7] (xS 1 63 61) (.only 11 [0,1,2,3,4,5,6,7,8] (xk 64 60) (.only 12 [0,1,2,3,4,5,6,7,8] (xa 65 2 64) (.only 13 [0,1,2,3,4,5,6,7,8] (xS 1 65 62) (.done))))))))))))))))) (kr [bI 67 .eql 15 8,xv 66 67] (.cond 66 (.seq (.dreg (.take 0 (xv 69 0) (.take 1 (xk 70 69) (.take 2 (xa 71 2 70) (.take 3 (xv 72 1) (.take 4 (xk 73 72) (.take 5 (xa 74 2 73) (.take 6 (xl 75 74) (.only 7 [] (xv 76 3) (.only 8 [2,6,1,5,0,4,3] (xo 77 (.call 377 [true,true,false,false,false] [.t 71,.t 75,.t 76,xi 0,.c (.bool true)])) (.only 9 [8,2,6,1,5,0,4,3] (xv 68 77) (.take 10 (xX 78 68 0) (.take 11 (xX 79 68 1) (.only 12 [0,1,2,3,4,5,6,10] (xv 12 78) (.only 13 [0,1,2,3,4,5,6,10,11] (xv 13 79) (.done)))))))))))))))) (.seq (.dreg (.take 0 (xv 80 1) (.take 1 (xv 81 0) (.take 2 (xk 82 81) (.take 3 (xa 83 2 82) (.take 4 (xv 84 13) (.take 5 (xv 85 3) (.take 6 (xv 86 1) (.take 7 (xk 87 86) (.take 8 (xa 88 1 87) (.take 9 (xl 89 88) (.only 10 [] (xa 90 3 7) (.only 11 [] (xl 91 90) (.only 12 [9,8,7,6] (xD 92 1 89 91) (.only 13 [12,9,8,7,6] (xl 93 92) (.only 14 [3,4,5,13,2,12,1,9,8,7,6] (xo 94 (.call 378 [true,true,false,false,false] [.t 83,.t 84,.t 85,.t 93,.c (.bool true)])) (.only 15 [0,1,2,3,4,5,6,7,8,9] (xk 95 80) (.only 16 [0,1,2,3,4,5,6,7,8,9] (xa 96 2 95) (.only 17 [0,1,2,3,4,5,6,7,8,9] (xS 1 96 94) (.done)))))))))))))))))))) (.dreg (.take 0 (xv 97 1) (.take 1 (xk 98 97) (.take 2 (xa 99 1 98) (.take 3 (xl 100 99) (.take 4 (xa 101 1 7) (.take 5 (xl 102 101) (.only 6 [] (xv 103 12) (.only 7 [0,1,2,3,4,5] (xD 104 1 100 102) (.only 8 [0,1,2,3,4,5] (xS 1 104 103) (.done))))))))))))) (.dreg (.take 0 (xv 16 1) (.take 1 (xv 17 0) (.take 2 (xk 18 17) (.take 3 (xa 19 2 18) (.take 4 (xv 20 1) (.take 5 (xk 21 20) (.take 6 (xa 22 2 21) (.take 7 (xl 23 22) (.take 8 (xv 24 3) (.take 9 (xv 25 1) (.take 10 (xk 26 25) (.take 11 (xa 27 1 26) (.take 12 (xl 28 27) (.take 13 (xa 29 3 7) (.take 14 (xl 30 29) (.take 15 (xD 31 1 28 30) (.take 16 (xl 32 31) (.only 17 [] (xa 33 0 7) (.only 18 [] (xl 34 33) (.only 19 [] (bI 35 .eql 34 7) (.only 20 [3,7,8,16,2,6,15,1,5,12,14,4,11,13,10,9] (xo 36 (.call 378 [true,true,false,false,false] [.t 19,.t 23,.t 24,.t 32,.t 35])) (.only 21 [0,1,2,3,4,5,6,7,8,9,10,11,12,13,14,15,16] (xk 37 16) (.only 22 [0,1,2,3,4,5,6,7,8,9,10,11,12,13,14,15,16] (xa 38 2 37) (.only 23 [0,1,2,3,4,5,6,7,8,9,10,11,12,13,14,15,16] (xS 1 38 36) (.done))))))))))))))))))))))))))))))))⟩
def m375:MFn:=⟨52,[.t 10,.t 11],kr [xb 5 0,xI 10 0,xo 11 (.mv (.c (.nil)))] (kr [xa 15 0 5,xl 16 15,xv 17 2,xD 18 1 16 17,xl 19 18,xv 12 19] (.seq (.dreg (.take 0 (xv 20 12) (.take 1 (xe 21 20) (.take 2 (bI 22 .sub 21 1) (.take 3 (xv 23 3) (.take 6 (xv 26 1) (.take 7 (xv 27 2) (.take 8 (xD 28 1 26 27) (.take 9 (xl 29 28) (.only 4 [3] (xc2 24 98 (.t 23) (xi 0)) (.only 5 [2,4,1,3,0] (bT 25 .sub 22 24) (.only 10 [4,5,9,3,2,8,1,6,7,0] (xc2 30 98 (.t 25) (.t 29)) (.only 11 [0,1,2,3,6,7,8,9] (xv 13 30) (.done)))))))))))))) (kr [xo 31 (.mkSl [xz] 0 []),xv 32 1,xA 33 1 8 31 32,xv 14 33] (kr [xv 34 14,xv 35 2,xv 36 13,xD 37 1 34 35,xS 1 37 36] (.seq (kr [xv 38 4] (.cond 38 (xr [xv 39 14,xv 40 12,xv 41 13,xD 42 2 40 41,xa 43 1 42,xl 44 43,xc2 45 381 (.t 39) (.t 44),xv 14 45]) (.skip))) (kR [xv 46 12,xv 47 13,xD 48 2 46 47,xa 49 0 48,xl 50 49,xv 51 14,xv 10 50,xv 11 51]))))))⟩
def m376:MFn:=⟨56,[.cell 10 1 true,.t 11],kr [xb 5 0,xo 10 (.alloc [.nil]),xo 11 (.mv (.c (.nil)))] (kr [xo 14 (.mkSl [xz] 0 []),xv 15 1,xA 16 1 8 14 15,xv 12 16] (kr [xv 17 12,xv 18 2,xa 19 0 5,xl 20 19,xv 21 2,xD 22 1 20 21,xl 23 22,xe 24 23,xD 25 1 17 18,xS 1 25 24] (kr [xv 26 3,xo 27 (.mkS [xz] 8 (xi 24) (xi 24)),xo 28 (.build [.int .i64 0,.nil] [(0,1,.t 26),(1,1,.t 27)]),xo 13 (.alloc [.int .i64 0,.nil]),xS 2 13 28] (.seq (.dreg (.take 0 (xa 29 1 13) (.take 1 (xl 30 29) (.take 2 (xv 31 2) (.take 3 (xv 32 12) (.only 4 [] (xv 33 2) (.only 5 [3] (xD 34 1 32 33) (.only 6 [5,3] (xl 35 34) (.only 7 [0,1,2,3] (xD 36 1 30 31) (.only 8 [0,1,2,3] (xS 1 36 35) (.done))))))))))) (.seq (kr [xv 37 4] (.cond 37 (xr [xo 38 (.mkSl [xz] 0 []),xv 39 12,xA 40 1 8 38 39,xa 41 1 13,xS 1 41 40]) (.skip))) (.seq (.dreg (.take 0 (xa 42 0 5) (.take 1 (xl 43 42) (.take 2 (xv 44 2) (.take 3 (xa 45 0 5) (.take 4 (xl 46 45) (.take 5 (xv 47 2) (.take 6 (xD 48 1 46 47) (.take 7 (xl 49 48) (.only 8 [] (xm 50 2 13) (.only 9 [] (xo 51 (.mkSl [.int .i64 0,.nil] 1 [(0,.t 50)])) (.only 10 [7,6,4,5,3] (xA 52 2 32 49 51) (.only 11 [0,1,2,3,4,5,6,7] (xD 53 1 43 44) (.only 12 [0,1,2,3,4,5,6,7] (xS 1 53 52) (.done))))))))))))))) (kR [xm 54 1 5,xv 55 12,xS 1 10 54,xv 11 55])))))))⟩
theorem qDl (cs:List (List wX)) (view:List Int) (cell:Nat) (late:Int) (hold:Bool) (hm:lF cs) (hv:VOk cs view) (hc:cell<24) (hl:-(2^63)≤late∧late<2^63) :
  qU Tryz.prog num 375 [.agg (uM .bw ⟨cs⟩),.sl .bw 1 (wQ view),.int .i64 cell,.int .i64 late,.bool hold] [] (.tup [.int .i64 (load cs view cell late hold).1,.sl .own 1 (wQ (load cs view cell late hold).2)]):=by
 refine EN m375 Tryz.func183 ?_
 unfold m375
 have hcl:cell<cs.length:=by rw [hm.len]; exact hc
 have hvl:=hv.1
 have hvc:cell<view.length:=by omega
 have hlc:=hm.cell cell hc
 have hv2:=hv.2 cell hc
 have hat:=qL5 (late:=late) hv hc
 have hcg:=vD .bw cs cell hcl
 generalize hcd:cs.getD cell []=c at *
 have hwl :∀i,i<c.length→(c.getD i default).view.length=24:=fun i hi=>(hm.view cell hc _ (by rw [hcd]; exact wZ c i default hi)).1
 have w1:IntKind.i64.wrap ((c.length:Int)-1)=c.length-1:=wM (by omega) (by omega)
 have w2:IntKind.i64.wrap ((c.length:Int)-1-max late 0)=c.length-1-max late 0:=wM (by omega) (by omega)
 simp only [go_sem,seval,hcg,w1,w2,qI view cell hvc]
 repeat refine K ?_
 refine DA [] (qDn late 0) ?_
 try simp only [go_sem,seval]
 try simp only [go_sem,seval,hcg,w1,w2,qI view cell hvc]
 refine DA [] (qDn ((c.length:Int)-1-max late 0) (view.getD cell 0)) ?_
 try simp only [go_sem,seval]
 repeat refine K ?_
 have he:max ((c.length:Int)-1-max late 0) (view.getD cell 0)=qC1 cs view cell late:=by unfold qC1; rw [hcd]
 generalize hla:qC1 cs view cell late=at_ at *
 obtain ⟨a,rfl⟩:=Int.eq_ofNat_of_zero_le hat.1
 have ha:a<c.length:=by omega
 have hwg:=fD .bw c a ha
 have hwa:=hwl a ha
 have hld:load cs view cell late hold=((c.getD a default).v,if hold then join (view.set cell a) (c.getD a default).view else view.set cell a):=by
  rw [qL4,hcd,hla]
  rfl
 rw [hld]
 try simp only [go_sem,seval,he,hcg,hwg,qI view cell hvc]
 repeat refine K ?_
 cases hold
 ·simp only [go_sem,seval,hcg,hwg]
  repeat refine K ?_
  refine ⟨_,Sub.refl _,yO (by simp) ?_⟩; simp [-qYj]
 simp only [go_sem,seval,hcg,hwg]
 repeat refine K ?_
 have hj:=qM0 (view.set cell a) (c.getD a default).view (by simp; omega)
 have htk :∀x:Int,(view.set cell x).take view.length=view.set cell x:=fun x=>qX3 (by simp)
 clear hvl hwa
 refine CA [] (hj) ?_
 try simp only [go_sem,seval]
 repeat refine K ?_
 try simp only [go_sem,seval,hcg,hwg]
 refine ⟨_,Sub.refl _,yO (by simp) ?_⟩; simp [-qYj]
theorem qOo (cs:List (List wX)) (view:List Int) (cell:Nat) (v:Int) (go:Bool) (hm:lF cs) (hv:VOk cs view) (hc:cell<24) :
  qU Tryz.prog num 376 [.agg [.ns 0 0 cs.length],.sl .bw 1 (wQ view),.int .i64 cell,.int .i64 v,.bool go] [(0,some (1,jR .own cs),none)] (.tup [.agg (uM .own ⟨(store cs view cell v go).1⟩),.sl .own 1 (wQ (store cs view cell v go).2)]):=by
 refine EH m376 Tryz.func184 ?_
 unfold m376
 have hcl:cell<cs.length:=by rw [hm.len]; exact hc
 have hvl:=hv.1
 have hvc:cell<view.length:=by omega
 have hlc:=hm.cell cell hc
 have hcg:=vD .own cs cell hcl
 have hst:store cs view cell v go=(cs.set cell (cs.getD cell []++[⟨v,if go then view.set cell ((cs.getD cell []).length:Int) else z24.set cell ((cs.getD cell []).length:Int)⟩]),view.set cell ((cs.getD cell []).length:Int)):=rfl
 rw [hst]
 have gt :∀r,((jR .own cs).set cell r).getD cell []=r:=fun r=>wF _ _ _ _ (by rw [yE]; exact hcl)
 generalize hcd:cs.getD cell []=c at *
 have gv:(view.set cell (c.length:Int)).getD cell 0=c.length:=wF _ _ _ _ hvc
 have g24:cell<z24.length:=by rw [gS]; exact hc
 have hvs:cell<(view.set cell (c.length:Int)).length:=by simpa using hvc
 have hi:=qI (view.set cell (c.length:Int)) cell hvs
 have hi2:=qI view cell hvc
 have hi3:=qI z24 cell g24
 have htk :∀x:Int,(view.set cell x).take view.length=view.set cell x:=fun x=>qX3 (by simp)
 simp only [go_sem,seval,hcg,gt,hi,hi2,cE,gS,hi3,gv]
 repeat refine K ?_
 cases go
 ·simp only [go_sem,seval,hcg,gt,hi,cE,gS,hi3,gv]
  repeat refine K ?_
  apply wG (by simp)
  ·refine Sub.trans (Sub.foldLast 18 1 15 rfl (by simp [-gD]<;>omega) rfl (by decide) (by decide) rfl) ?_
   simp only [fS,fS2,qA,qC,aJ,gS]
   refine Sub.trans (Sub.foldAt 0 0 18 rfl (by simp [-gD]<;>omega) rfl (by decide) (by decide) rfl (by simp<;>omega)) ?_
   simp only [fS,fS2,qA,qC,vO]
   exact Sub.refl _
  ·simp [-qYj,-gD,uD]<;>(first | rfl | exact ⟨rfl,rfl⟩ | exact ⟨rfl,rfl,rfl⟩ | skip)
 simp only [go_sem,seval,hcg,gt,hi,htk,cE,gS,hi3,gv]
 repeat refine K ?_
 apply wG (by simp)
 ·refine Sub.trans (Sub.foldLast 20 1 18 rfl (by simp [-gD]<;>omega) rfl (by decide) (by decide) rfl) ?_
  simp only [fS,fS2,qA,qC,aJ]
  refine Sub.trans (Sub.foldAt 0 0 20 rfl (by simp [-gD]<;>omega) rfl (by decide) (by decide) rfl (by simp<;>omega)) ?_
  simp only [fS,fS2,qA,qC,vO]
  exact Sub.refl _
 ·simp [-qYj,-gD,uD]<;>(first | rfl | exact ⟨rfl,rfl⟩ | exact ⟨rfl,rfl,rfl⟩ | skip)
theorem mU (cs:List (List wX)) (view:List Int) (cell:Nat) (v:Int) (go:Bool) (hm:lF cs) (hv:VOk cs view) (hc:cell<24) :
  qU Tryz.prog num 376 [.agg [.ns 0 0 cs.length],.sl .bw 1 (wQ view),.int .i64 cell,.int .i64 v,.bool go] [(0,some (1,(jR .own cs).set cell [.ns 1 0 (cs.getD cell []).length]),none),(1,some (2,vX .own (cs.getD cell [])),none)] (.tup [.agg (uM .own ⟨(store cs view cell v go).1⟩),.sl .own 1 (wQ (store cs view cell v go).2)]):=by
 have hR:okR qMi ((jR .own cs).set cell [.ns 1 0 (cs.getD cell []).length]):=oP _ _ _ (by simp [okL,okV,qMi])
 have hB:jS (· < 10) ((jR .own cs).set cell [.ns 1 0 (cs.getD cell []).length]):=qBw (fun n hn=>by rcases hn with rfl | rfl | rfl<;>decide) hR
 refine EH m376 Tryz.func184 (hh:=vW _ _ _ _ (vW _ _ _ _ ((mC _).2 trivial) (by decide) (by simp [yZ])) (by decide) hB) ?_
 clear hR hB
 unfold m376
 have hcl:cell<cs.length:=by rw [hm.len]; exact hc
 have hvl:=hv.1
 have hvc:cell<view.length:=by omega
 have hlc:=hm.cell cell hc
 have hcg:=vD .own cs cell hcl
 have hst:store cs view cell v go=(cs.set cell (cs.getD cell []++[⟨v,if go then view.set cell ((cs.getD cell []).length:Int) else z24.set cell ((cs.getD cell []).length:Int)⟩]),view.set cell ((cs.getD cell []).length:Int)):=rfl
 rw [hst]
 have gt :∀r,((jR .own cs).set cell r).getD cell []=r:=fun r=>wF _ _ _ _ (by rw [yE]; exact hcl)
 generalize hcd:cs.getD cell []=c at *
 have gv:(view.set cell (c.length:Int)).getD cell 0=c.length:=wF _ _ _ _ hvc
 have g24:cell<z24.length:=by rw [gS]; exact hc
 have hvs:cell<(view.set cell (c.length:Int)).length:=by simpa using hvc
 have hi:=qI (view.set cell (c.length:Int)) cell hvs
 have hi2:=qI view cell hvc
 have hi3:=qI z24 cell g24
 have htk :∀x:Int,(view.set cell x).take view.length=view.set cell x:=fun x=>qX3 (by simp)
 simp only [go_sem,seval,hcg,gt,hi,hi2,cE,gS,hi3,gv]
 repeat refine K ?_
 cases go
 ·simp only [go_sem,seval,hcg,gt,hi,cE,gS,hi3,gv]
  repeat refine K ?_
  apply wG (by simp)
  ·refine Sub.trans (Sub.foldLast 17 1 14 rfl (by simp [-gD]<;>omega) rfl (by decide) (by decide) rfl) ?_
   simp only [fS,fS2,qA,qC,aJ,gS]
   refine Sub.trans (Sub.foldAt 0 0 17 rfl (by simp [-gD]<;>omega) rfl (by decide) (by decide) rfl (by simp<;>omega)) ?_
   simp only [fS,fS2,qA,qC,vO]
   exact Sub.refl _
  ·simp [-qYj,-gD,uD]<;>(first | rfl | exact ⟨rfl,rfl⟩ | exact ⟨rfl,rfl,rfl⟩ | skip)
 simp only [go_sem,seval,hcg,gt,hi,htk,cE,gS,hi3,gv]
 repeat refine K ?_
 apply wG (by simp)
 ·refine Sub.trans (Sub.foldLast 19 1 17 rfl (by simp [-gD]<;>omega) rfl (by decide) (by decide) rfl) ?_
  simp only [fS,fS2,qA,qC,aJ]
  refine Sub.trans (Sub.foldAt 0 0 19 rfl (by simp [-gD]<;>omega) rfl (by decide) (by decide) rfl (by simp<;>omega)) ?_
  simp only [fS,fS2,qA,qC,vO]
  exact Sub.refl _
 ·simp [-qYj,-gD,uD]<;>(first | rfl | exact ⟨rfl,rfl⟩ | exact ⟨rfl,rfl,rfl⟩ | skip)
attribute [go_sem] cH qGs qGr
attribute [simp] cH qGs qGr
theorem qNw {P:Program} {num:Nat→Nat} {fin:AS→Prop} (s:AS):vc P num fin [] s=fin s:=by rw [vc]
theorem iT (m:wA) (i:Nat) (s:yH) (cell:Nat) (late:Int) (hm:lF m.mem.cells) (hi:i<m.cores.length) (hr:(qJ m i).regs.length=8) (hv:VOk m.mem.cells (qJ m i).view) (hc:cell<24) (hl:-(2^63)≤late∧late<2^63)
  (r0:0≤s.r) (r1:s.r.toNat<8) (b0:0≤s.b) (b1:s.b.toNat<8) :
  qU Tryz.prog num 369 [.ptr 0 0 0,.ptr 1 i 0,.agg (bU s),.int .i64 cell,.int .i64 late]
   [(0,some (4,[[.sl .own 1 (codes .own m.codes),.ns 1 0 m.cores.length,.sl .own 1 (jR .own m.mem.cells),.sl .own 2 (jW m.tr)]]),some (4,[[.sl .own 1 (codes .own m.codes),.ns 1 0 m.cores.length,.sl .own 1 (jR .own (jK m.mem.cells (qJ m i) s cell late).1),.sl .own 2 (jW m.tr)]])),
    (1,some (4,cores .own m.cores),some (4,cores .own (m.cores.set i (jK m.mem.cells (qJ m i) s cell late).2)))] (.tup []):=by
 refine EH m369 Tryz.func178 (hh:=vW _ _ _ _ (vW _ _ _ _ ((mC _).2 trivial) (by decide) (by simp [yZ])) (by decide) (by simp [yZ,jS,vI,bnd])) ?_
 unfold m369
 have hcg:=jZ .own m.cores i hi
 have gt :∀r,((cores .own m.cores).set i r).getD i []=r:=fun r=>wF _ _ _ _ (by rw [jT]; exact hi)
 have hk:m.cores.getD i default=qJ m i:=rfl
 rw [hk] at hcg
 generalize qJ m i=k at *
 have rr:s.r.toNat<k.regs.length:=by omega
 have rb:s.b.toNat<k.regs.length:=by omega
 have hR:okR qMi ((cores .own m.cores).set i [.int .i64 k.at_,.sl .own 1 (wQ k.regs),.ns 2 0 k.view.length,.int .i64 k.st]):=tQ _ _ _ (by simp [okL,okV,nb,qMi])
 have hR2:okR (fun k=>0=k∨1=k∨2=k) ((cores .own m.cores).set i [.int .i64 k.at_,.sl .own 1 (wQ k.regs),.ns 2 0 k.view.length,.int .i64 k.st]):=qBv (fun n hn=>by rcases hn with rfl | rfl | rfl<;>simp) hR
 have hR4:okR qQ5 ((cores .own m.cores).set i [.int .i64 k.at_,.ns 3 0 k.regs.length,.ns 2 0 k.view.length,.int .i64 k.st]):=tQ _ _ _ (by simp [okL,okV,nb,qQ5])
 have hR4b:okR (fun k=>0=k∨1=k∨2=k∨3=k) ((cores .own m.cores).set i [.int .i64 k.at_,.ns 3 0 k.regs.length,.ns 2 0 k.view.length,.int .i64 k.st]):=qBv (fun n hn=>by rcases hn with rfl | rfl | rfl | rfl<;>simp) hR4
 have hR5:okR qQ4 ((cores .own m.cores).set i [.int .i64 k.at_,.ns 3 0 k.regs.length,.ns 4 0 k.view.length,.int .i64 k.st]):=tQ _ _ _ (by simp [okL,okV,nb,qQ4])
 have hR5b:okR (fun k=>0=k∨1=k∨2=k∨3=k∨4=k) ((cores .own m.cores).set i [.int .i64 k.at_,.ns 3 0 k.regs.length,.ns 4 0 k.view.length,.int .i64 k.st]):=qBv (fun n hn=>by rcases hn with rfl | rfl | rfl | rfl | rfl<;>simp) hR5
 have hv5:VOk m.mem.cells (load m.mem.cells k.view cell 0 true).2:=qFf hm hv hc
 clear hr
 by_cases h5:s.op=5
 ·have ha:jK m.mem.cells k s cell late=(m.mem.cells,{k with regs:=k.regs.set s.r.toNat (load m.mem.cells k.view cell late false).1,view:=(load m.mem.cells k.view cell late false).2}):=by
   unfold jK
   rw [if_pos h5]
  rw [ha]
  simp only [go_sem,seval,h5,hcg,gt,qI k.regs s.r.toNat rr]
  repeat refine K ?_
  refine DAN [(0,0),(1,1),(2,11)] (qEn m.codes m.cores.length m.mem.cells m.tr _ hR k.view cell late false hm hv hc hl) ?_
  try simp only [go_sem,seval]
  repeat refine K ?_
  try simp only [go_sem,seval,h5,hcg,gt,qI k.regs s.r.toNat rr]
  repeat refine K ?_
  rw [qNw]
  apply wG (by decide)
  ·refine Sub.trans (Sub.foldAt 1 1 13 rfl (by simp [-gD]<;>omega) rfl (by decide) (by decide) rfl (by simp<;>omega)) ?_
   simp only [fS,fS2,qA,qC,qK]
   refine Sub.trans (Sub.foldAt 1 2 12 rfl (by simp [-gD]<;>omega) rfl (by decide) (by decide) rfl (by simp<;>omega)) ?_
   simp only [fS,fS2,qA,qC,qK]
   exact Sub.refl _
  ·simp [-qYj,-gD,qK]<;>(first | rfl | exact ⟨rfl,rfl⟩ | exact ⟨rfl,rfl,rfl⟩ | skip)
 by_cases h8:s.op=8
 ·have ha:jK m.mem.cells k s cell late=((store m.mem.cells (load m.mem.cells k.view cell 0 true).2 cell (k.regs.getD s.b.toNat 0) true).1,{k with regs:=k.regs.set s.r.toNat (load m.mem.cells k.view cell 0 true).1,view:=(store m.mem.cells (load m.mem.cells k.view cell 0 true).2 cell (k.regs.getD s.b.toNat 0) true).2}):=by
   unfold jK
   rw [if_neg h5,if_pos h8]
   rfl
  rw [ha]
  simp only [go_sem,seval,h5,h8,hcg,gt]
  repeat refine K ?_
  refine DAN [(0,0),(1,1),(2,11)] (qEn m.codes m.cores.length m.mem.cells m.tr _ hR k.view cell 0 true hm hv hc (by omega)) ?_
  try simp only [go_sem,seval]
  repeat refine K ?_
  try simp only [go_sem,seval,h5,h8,hcg,gt,qI k.regs s.b.toNat rb]
  repeat refine K ?_
  generalize hld:load m.mem.cells k.view cell 0 true=ld at *
  refine DAN [(0,0),(1,1),(2,12),(3,13),(4,11)] (qIp m.codes m.cores.length m.mem.cells m.tr _ hR5 ld.2 k.regs k.view cell (k.regs.getD s.b.toNat 0) true hm hv5 hc) ?_
  try simp only [go_sem,seval]
  try simp only [go_sem,seval,h5,h8,hcg,gt,qI k.regs s.r.toNat rr]
  repeat refine K ?_
  rw [qNw]
  apply wG (by decide)
  ·refine Sub.trans (Sub.foldAt 1 1 13 rfl (by simp [-gD]<;>omega) rfl (by decide) (by decide) rfl (by simp<;>omega)) ?_
   simp only [fS,fS2,qA,qC,qK]
   refine Sub.trans (Sub.foldAt 1 2 14 rfl (by simp [-gD]<;>omega) rfl (by decide) (by decide) rfl (by simp<;>omega)) ?_
   simp only [fS,fS2,qA,qC,qK]
   exact Sub.refl _
  ·simp [-qYj,-gD,qK]<;>(first | rfl | exact ⟨rfl,rfl⟩ | exact ⟨rfl,rfl,rfl⟩ | skip)
 have ha:jK m.mem.cells k s cell late=((store m.mem.cells k.view cell (k.regs.getD s.b.toNat 0) (decide (s.op=7))).1,{k with view:=(store m.mem.cells k.view cell (k.regs.getD s.b.toNat 0) (decide (s.op=7))).2}):=by
  unfold jK
  rw [if_neg h5,if_neg h8]
  rfl
 rw [ha]
 simp only [go_sem,seval,h5,h8,hcg,gt,qI k.regs s.b.toNat rb]
 repeat refine K ?_
 refine DAN [(0,0),(1,1),(2,11),(3,12)] (qIq m.codes m.cores.length m.mem.cells m.tr _ hR4 k.view k.regs cell (k.regs.getD s.b.toNat 0) (decide (s.op=7)) hm hv hc) ?_
 try simp only [go_sem,seval]
 try simp only [go_sem,seval,h5,h8,hcg,gt]
 repeat refine K ?_
 rw [qNw]
 apply wG (by decide)
 ·refine Sub.trans (Sub.foldAt 1 1 12 rfl (by simp [-gD]<;>omega) rfl (by decide) (by decide) rfl (by simp<;>omega)) ?_
  simp only [fS,fS2,qA,qC,qK]
  refine Sub.trans (Sub.foldAt 1 2 13 rfl (by simp [-gD]<;>omega) rfl (by decide) (by decide) rfl (by simp<;>omega)) ?_
  simp only [fS,fS2,qA,qC,qK]
  exact Sub.refl _
 ·simp [-qYj,-gD,qK]<;>(first | rfl | exact ⟨rfl,rfl⟩ | exact ⟨rfl,rfl,rfl⟩ | skip)
theorem tR (k:bY) (s:yH) (ha:s.op≠8→0≤s.a→s.a.toNat<k.regs.length):qU Tryz.prog num 367 [.fptr .bw (mX .bw k) 0,.agg (bU s)] [] (.tup [.int .i64 (wK k s),.bool (qO (wK k s) 0 23)]):=by
 refine EN m367 Tryz.func176 ?_
 unfold m367
 by_cases h8:s.op=8
 ·have hc:wK k s=s.n:=by
   unfold wK
   rw [if_neg (by rintro ⟨h,_⟩; exact h h8)]
  rw [hc]
  simp only [go_sem,seval,h8]
  refine CA [] (iJ s.n) ?_
  try simp only [go_sem,seval]
  refine ⟨_,Sub.refl _,yO (by simp) ?_⟩; simp [-qYj]
 by_cases ha0:0≤s.a
 ·have hc:wK k s=IntKind.i64.wrap (s.n+k.regs.getD s.a.toNat 0):=by
   unfold wK
   rw [if_pos ⟨h8,ha0⟩]
   rfl
  have ra:=ha h8 ha0
  rw [hc]
  simp only [go_sem,seval,h8,ha0,qI k.regs s.a.toNat ra]
  repeat refine K ?_
  refine CA [] (iJ (IntKind.i64.wrap (s.n+k.regs.getD s.a.toNat 0))) ?_
  try simp only [go_sem,seval]
  refine ⟨_,Sub.refl _,yO (by simp) ?_⟩; simp [-qYj]
 ·have hc:wK k s=s.n:=by
   unfold wK
   rw [if_neg (by rintro ⟨_,h⟩; exact ha0 h)]
  rw [hc]
  simp only [go_sem,seval,h8,ha0]
  refine CA [] (iJ s.n) ?_
  try simp only [go_sem,seval]
  refine ⟨_,Sub.refl _,yO (by simp) ?_⟩; simp [-qYj]
theorem dB {s:yH} {n:Int} (h:yW s n=true):0≤s.r∧s.r≤7∧0≤s.b∧s.b≤7∧1≤s.op∧s.op≤13∧((0≤s.a∧s.a≤7)∨((s.op=5∨s.op=6∨s.op=7)∧s.a=-1)):=by
 unfold yW at h
 simp only [Bool.and_eq_true,qP,Bool.or_eq_true,decide_eq_true_eq] at h
 obtain ⟨⟨⟨h1,h2⟩,h3⟩,h4⟩:=h
 have:1≤s.op∧s.op≤13:=by
  repeat' split at h4
  all_goals (first | omega | simp at h4)
 omega
theorem vE {m:wA} {i:Nat} {late:Int} {k:bY} {s:yH} (hk:qJ m i=k) (hs:wD m i=s) (hi:i<m.cores.length) (h0:k.st=0) (h9 :¬(s.op=9∧(m.tr.length:Int)=4000))
  (hroom:(jH s.op&&!decide (s.op=5)&&qO (wK k s) 0 23&&decide ((4000:Int)≤(m.mem.cells.getD (wK k s).toNat []).length))=false):yF m ⟨i,late⟩=(mdo m i late,0):=by
 have hw:qO (i:Int) 0 ((m.cores.length:Int)-1)=true:=by rw [qP]; omega
 have hc:aG m (i:Int)=0:=by
  unfold aG
  rw [if_pos hw]
  simp only [Int.toNat_natCast,hk,hs]
  rw [if_neg (by rintro (h | h); exact h h0; exact h9 h),hroom]
  rfl
 unfold yF
 simp only [hc,if_true,Int.toNat_natCast]
theorem eN {m:wA} {i:Nat} {late:Int} {k:bY} {s:yH} (hk:qJ m i=k) (hs:wD m i=s) (hi:i<m.cores.length) (h:(k.st≠0∨(s.op=9∧(m.tr.length:Int)=4000))∨(jH s.op&&!decide (s.op=5)&&qO (wK k s) 0 23&&decide ((4000:Int)≤(m.mem.cells.getD (wK k s).toNat []).length))=true):yF m ⟨i,late⟩=(m,3):=by
 have hw:qO (i:Int) 0 ((m.cores.length:Int)-1)=true:=by rw [qP]; omega
 have hc:aG m (i:Int)=3:=by
  unfold aG
  rw [if_pos hw]
  simp only [Int.toNat_natCast,hk,hs]
  split
  ·rfl
  ·rename_i h1
   rcases h with h | h
   ·exact absurd h h1
   ·rw [h]
    rfl
 unfold yF
 rw [hc]
 rfl
theorem bP {m:wA} {i:Nat} {k:bY} {uZ:Int} (h:((m.codes.getD i []).length:Int)≤uZ):fA m i k uZ=jI m i ⟨k.at_,k.regs,k.view,2⟩:=by
 unfold fA
 rw [if_pos h]
theorem uG {m:wA} {i:Nat} {k:bY} {uZ:Int} (h :¬((m.codes.getD i []).length:Int)≤uZ):fA m i k uZ=jI m i ⟨uZ,k.regs,k.view,k.st⟩:=by
 unfold fA
 rw [if_neg h]
theorem wC (m:wA) (i:Nat) (k:bY):qY .own (jI m i k)=[.sl .own 1 (codes .own m.codes),.sl .own 4 (cores .own (m.cores.set i k)),.sl .own 1 (jR .own m.mem.cells),.sl .own 2 (jW m.tr)]:=rfl
def qWa (rs:List tX) (fp:FP) (res:AV):AS→Prop
 | .bad=>True
 | .mk t h nx=>qI0 (rs.map fun r=>(dX t h r).2)∧(∃vs,qQ (rs.map fun r=>(dX t h r).1) vs∧res=qL vs)∧∀x∈fp,wE h x.1=wE (uC fp) x.1
def qVj (rs:List tX) (fp:FP) (res:AV) (s:AS):Prop :=∃s1,Sub s s1∧qWa rs fp res s1
theorem qKx {P:Program} {num:Nat→Nat} {fn:Func} {rs:List tX} {e:Env} {Lf0:Nat→List Nat} {fp:FP} {res:AV} {nt:Nat} {a:Act} {w:World} {s:AS} (hr:cK P fn.results.toList rs=true) (hw0:e.w0=e.w)
  (hk0:Ok e (sY Lf0 (vU fp)) (wE (vU fp)) Lf0)
  (hfin:qWa rs fp res s) (hs:St {num:=e.num,w0:=e.w,Fr:=e.Fr,Bo:=e.Bo,L0:=sY Lf0 (vU fp),φ0:=e.φ,nt:=nt} s a w) :
  a.defers=[]∧∃v,(results fn a.tmps).run P w=.ok v w∧qSh e Lf0 fp res v w:=by
 cases s with
 | bad=>exact hs.elim
 | mk t h nx =>
  obtain ⟨_,hdef,hb,hbt,φ,Lf,hl⟩:=hs
  obtain ⟨f1,⟨vs,f3,f4⟩,f5⟩:=hfin
  refine ⟨hdef,?_⟩
  let B:mL:={num:=e.num,w0:=e.w,Fr:=e.Fr,Bo:=e.Bo,L0:=sY Lf0 (vU fp),φ0:=e.φ,nt:=nt}
  have hl':rN B t h nx a w φ Lf:=hl
  obtain ⟨us,r1,r2⟩:=mQ hl'.ok hl'.tm fn.results.toList rs hr f1
  obtain ⟨L,hL⟩ :∃L:List Nat,L=[]:=⟨[],rfl⟩
  have g3:RVs (B.env w φ) vs us L:=by rw [hL]; exact pM f3 r2
  have hlen:us.length=vs.length:=jN g3
  have hrun:(results fn a.tmps).run P w=.ok (if us.length=1 then us.getD 0 undef else .tuple us.toArray) w:=by
   rw [qG6]
   simp only [Sem.run_bind]
   rw [Array.mapM_eq_mapM_toList,Sem.run_map]
   have r1':(fn.results.toList.mapM (qAl a.tmps)).run P w=.ok us w:=r1
   rw [r1']
   simp only [Result.andThen_ok,Sem.run_pure]
   by_cases h1:us.length=1
   ·rw [if_pos h1,dif_pos (by simpa using h1)]
    congr 1
    cases us with
    | nil=>simp at h1
    | cons u us=>rfl
   ·rw [if_neg h1,dif_neg (by simpa using h1)]
  refine ⟨_,hrun,?_⟩
  let F:Nat→Prop:=fun n=>n∈fp.map (·.1)
  classical
  let e'':Env:=B.env w (fun n=>if F n∧wE (uC fp) n≠none then φ n else .dead)
  have hke:xY (B.env w φ) e'' (fun _=>True) (L++[]) :=
   {num:=rfl,fr:=fun m b hb=>by cases m<;>exact hb,cells:=fun b _ o=>rfl,φ:=fun n _=>by
     by_cases hn:F n∧wE (uC fp) n≠none
     ·left; show (if F n∧wE (uC fp) n≠none then φ n else uP.dead)=φ n; rw [if_pos hn]
     ·right; show (if F n∧wE (uC fp) n≠none then φ n else uP.dead)=uP.dead; rw [if_neg hn],own:=fun b _=>rfl}
  have hke' :∀M:List Nat,xY (B.env w φ) e'' (fun _=>True) M:=fun M=>{hke with own:=fun b _=>rfl}
  have hres:RV e'' res (if us.length=1 then us.getD 0 undef else .tuple us.toArray) L:=by
   refine lE res (hke' L) (sW _) ?_
   rw [f4]
   by_cases h1:us.length=1
   ·rw [if_pos h1]
    cases vs with
    | nil=>rw [hlen] at h1; simp at h1
    | cons v vs =>
     cases vs with
     | nil =>
      simp only [RVs] at g3
      obtain ⟨u,us',L1,L2,rfl,k1,⟨rfl,rfl⟩,rfl⟩:=g3
      simpa [qL] using k1
     | cons v' vs=>rw [hlen] at h1; simp at h1
   ·rw [if_neg h1]
    have:qL vs=.tup vs:=by
     cases vs with
     | nil=>rfl
     | cons v vs =>
      cases vs with
      | nil=>exact absurd (hlen.trans rfl) h1
      | cons v' vs=>rfl
    rw [this]
    simp only [RV]
    exact ⟨us,rfl,g3⟩
  have hleft :∀nm,F nm→wE (uC fp) nm≠none→wE h nm=wE (uC fp) nm:=by
   intro nm hn _
   obtain ⟨x,hx,rfl⟩:=List.mem_map.1 hn
   exact f5 x hx
  have hblk :∀nm,wE h nm≠none→∀b∈Lf nm,b<w.heap.size∧(e.w.heap.size≤b∨∃m,F m∧wE (vU fp) m≠none∧b∈Lf0 m):=by
   intro nm hn b hb
   refine ⟨(hl'.ok.rh.blk nm hn b hb).1,?_⟩
   rcases hl'.ok.own0 nm hn b hb with h1 | h1
   ·obtain ⟨m,h2,h3⟩:=mA h1
    exact .inr ⟨m,eC h2,h2,h3⟩
   ·exact .inl h1
  have hdead0 :∀nm,¬F nm→e.φ nm=.dead:=by
   intro nm hn
   refine hk0.rh.dead nm ?_
   cases hh:wE (vU fp) nm with
   | none=>rfl
   | some r=>exact absurd (eC (by simp [hh])) hn
  refine ⟨e'',Lf,L,rfl,?_,hres,by rw [hL]; exact List.nodup_nil,?_,?_⟩
  ·exact {
    num:=rfl
    w0:=hw0.symm
    Fr:=rfl
    Bo:=rfl
    io:=hl'.ok.io0
    size:=hl'.ok.size0
    keep:=fun b h1 h2=>by
     refine hl'.ok.keep0 b h1 (fun hm=>?_)
     obtain ⟨m,h3,h4⟩:=mA hm
     exact h2 m (eC h3) h3 h4
    φ:=fun nm hn=>by
     rw [hdead0 nm hn]
     show (if F nm∧wE (uC fp) nm≠none then φ nm else uP.dead)=uP.dead
     rw [if_neg (fun hh=>hn hh.1)]
    φF:=fun nm hn hp=>by
     show (if F nm∧wE (uC fp) nm≠none then φ nm else uP.dead)=e.φ nm∨(if F nm∧wE (uC fp) nm≠none then φ nm else uP.dead)=uP.dead
     split
     ·refine (hl'.φ0 nm ?_).2
      intro hd
      have hd':e.φ nm=.dead:=hd
      cases hh:wE (vU fp) nm with
      | none=>exact hp hh
      | some r =>
       have:=hk0.rh.row nm r hh
       unfold dA zS at this
       rw [hd'] at this
       exact this
     ·exact .inr rfl
    rest:=fun nm hn=>by
     have h1:wE (vU fp) nm=none:=by
      cases hh:wE (vU fp) nm with
      | none=>rfl
      | some r=>exact absurd (eC (by simp [hh])) hn
     have h2:wE (uC fp) nm=none:=by
      cases hh:wE (uC fp) nm with
      | none=>rfl
      | some r=>exact absurd (qD7 (by simp [hh])) hn
     rw [h1,h2]
    row:=fun nm row hn hp=>by
     have h1:=hleft nm hn (by simp [hp])
     have h2:=hl'.ok.rh.row nm row (by rw [h1,hp])
     refine h2.keep (hke' _) ?_ (oR _)
     show (if F nm∧wE (uC fp) nm≠none then φ nm else uP.dead)=φ nm
     rw [if_pos ⟨hn,by simp [hp]⟩]
    nodup:=fun nm hn hp=>hl'.ok.rh.nodup nm (by rw [hleft nm hn hp]; exact hp)
    blk:=fun nm hn hp b hb=>hblk nm (by rw [hleft nm hn hp]; exact hp) b hb
    dis:=fun n m hn hm hp hq hne b hb=>hl'.ok.rh.dis n m (by rw [hleft n hn hp]; exact hp) (by rw [hleft m hm hq]; exact hq) hne b hb
    dead:=fun nm hn hp=>by
     show (if F nm∧wE (uC fp) nm≠none then φ nm else uP.dead)=uP.dead
     rw [if_neg (fun hh=>hh.2 hp)]}
  ·intro b hb
   rw [hL] at hb
   simp at hb
  ·intro b hb
   rw [hL] at hb
   simp at hb
theorem qTq {P:Program} {num:Nat→Nat} {f:Nat} {fn:Func} {c:Code} {m:MFn} {args:List AV} {fp:FP} {res:AV} (hf:P.funcs[num f]?=some fn) (hnm:(fn.name == "runtime.NumGoroutine")=false) (hbd:fn.body=some c) (hc:mK P num fn.ntmps m.body c=true)
  (hr:cK P fn.results.toList m.results=true) (hn:args.length≤fn.ntmps) (hb:vI (· < 10) args) (hh:HB (vU fp) 10)
  (hv:vc P num (qVj m.results fp res) [.code m.body] (.mk (kN 0 args) (vU fp) 10)):qU P num f args fp res:=by
 refine ⟨⟨fn,hf,hnm,by rw [hbd]; rfl⟩,?_⟩
 intro e Lf cs hnum hw0 hk hargs
 subst hnum
 have hlen:=jN hargs
 let B:mL:={num:=e.num,w0:=e.w,Fr:=e.Fr,Bo:=e.Bo,L0:=sY Lf (vU fp),φ0:=e.φ,nt:=fn.ntmps}
 let a0:Act:={tmps:=cs.toArray++Array.replicate (fn.ntmps-cs.toArray.size) undef,defers:=[]}
 have he:B.env e.w e.φ=e:=by
  cases e
  simp only at hw0
  subst hw0
  rfl
 have hst:St B (.mk (kN 0 args) (vU fp) 10) a0 e.w:=by
  refine ⟨?_,rfl,hh,?_,e.φ,Lf,?_,?_,?_,Nat.le_refl _⟩
  ·show (cs.toArray++Array.replicate (fn.ntmps-cs.toArray.size) undef).size=fn.ntmps
   simp
   omega
  ·intro n
   rw [fY,if_pos (Nat.zero_le _)]
   exact lN hb _
  ·rw [he]; exact hk
  ·intro n
   rw [he,fY,if_pos (Nat.zero_le _),Nat.sub_zero]
   show RV e (args.getD n .any) ((cs.toArray++Array.replicate (fn.ntmps-cs.toArray.size) undef).getD n undef) []
   by_cases hn':n<args.length
   ·obtain ⟨v,h1,h2⟩:=fM hargs n hn'
    rw [kD hn',Array.getD_eq_getD_getElem?,Array.getElem?_append_left (by simpa [hlen] using hn')]
    simp only [List.getElem?_toArray,h1,Option.getD_some]
    exact h2
   ·have:args.getD n .any=.any:=by
     rw [List.getD_eq_getElem?_getD,List.getElem?_eq_none (by omega)]; rfl
    rw [this]
    simp [RV]
  ·intro n hne
   have hne':e.φ n≠.dead:=hne
   refine ⟨?_,.inl rfl⟩
   cases hl:wE (vU fp) n with
   | none=>exact absurd (hk.rh.dead n hl) hne'
   | some r=>exact (hh n r hl).1
 have:=qLs (R:=fun a w=>a.defers=[]∧∃v,(results fn a.tmps).run P w=.ok v w∧qSh e Lf fp res v w) (B:=B) rfl (fun s a w ⟨s1,h1,h2⟩ hs=>qKx (num:=e.num) hr hw0 hk h2 (h1 _ _ _ hs)) _ _ (Nat.le_refl _) _ hv a0 e.w hst
 simp only [sem] at this
 refine calls_of_wp hf hbd (wp_mono (this c hc) ?_)
 rintro ex a w ⟨hex,h1,v,h2,h3⟩
 rcases hex with rfl | rfl<;>exact ⟨h1,v,h2,h3⟩
theorem mE {rs:List tX} {fp:FP} {vs:List AV} {s:AS} {t:List (Nat×AV)} {h:yB} {nx:Nat} (h0:vs.length≠1) (hs:Sub s (.mk t h nx)) (h1:qI0 (rs.map fun r=>(dX t h r).2)∧qQ (rs.map fun r=>(dX t h r).1) vs∧∀x∈fp,wE h x.1=wE (uC fp) x.1):qVj rs fp (.tup vs) s:=by
 refine ⟨_,hs,h1.1,⟨vs,h1.2.1,?_⟩,h1.2.2⟩
 cases vs with
 | nil=>rfl
 | cons v vs =>
  cases vs with
  | nil=>exact absurd rfl h0
  | cons v' vs=>rfl
end Go.Sep
