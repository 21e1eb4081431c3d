/- Contracts of functions. -/
import Derived.Test.YtfecojefbnnknaaGreatRxx27
open List renaming drop_one → wD9, take_length → wDo
namespace Go.Sep
set_option maxHeartbeats 16000000
open Go.Proofs
set_option linter.unusedSimpArgs false
set_option linter.unusedVariables false
set_option maxRecDepth 100000
open Nat renaming reduceAdd → qA, reduceMul → qB, reduceEqDiff → qC, reduceBEq → qD
open Int renaming reduceToNat → qE, reduceEq → qF, reduceLT → qG, reduceLE → qH
open List renaming getD_eq_getElem?_getD → gD
def m497:MFn:=⟨6,[.t 2],kr [xo 2 (.mv (.c (.nil)))] (kR [xv 3 0,xo 4 (.call 37 [true] [.t 3]),xo 5 (.call 484 [true] [.t 4]),xv 2 5])⟩
def m498:MFn:=⟨6,[.t 2],kr [xo 2 (.mv (.c (.nil)))] (kR [xv 3 0,xo 4 (.call 37 [true] [.t 3]),xo 5 (.call 484 [true] [.t 4]),xv 2 5])⟩
def m499:MFn:=⟨6,[.cell 2 2 true],kr [xo 2 (.alloc [.nil,.nil])] (kR [xv 3 0,xo 4 (.call 37 [true] [.t 3]),xo 5 (.call 38 [true] [.t 4]),xS 2 2 5])⟩
def m500:MFn:=⟨6,[.cell 2 2 true],kr [xo 2 (.alloc [.nil,.nil])] (kR [xv 3 0,xo 4 (.call 37 [true] [.t 3]),xo 5 (.call 38 [true] [.t 4]),xS 2 2 5])⟩
def m501:MFn:=⟨59,[.t 2],kr [xo 2 (.mv (.c (.nil)))] (kr [xo 8 (.mkSl [xz] 0 []),xv 3 8] (kr [xv 9 0,xc1 10 490 (.t 9),xv 4 10] (.seq (kr [xv 11 4,xe 12 11,bI 13 .eql 12 0] (kF 13 [xv 14 3,xv 2 14])) (kr [xv 15 0,xo 16 (.mkSl [xz] 1 [(0,xi 0)]),xc2 17 517 (.t 15) (.t 16),xv 5 17] (.seq (kr [xI 6 0] (.blk 0 (.loop (.seq (kr [xv 18 6,bI 19 .add 18 1,xv 20 0,xe 21 20,bT 22 .lss 19 21] (kX 22 0)) (.seq (.blk 1 (kr [xv 25 0,xv 26 6,xD 27 5 25 26,xm 28 5 27,xo 7 (.alloc [xz,xz,xz,xz,xz]),xS 5 7 28] (.seq (.dreg (.take 0 (xv 29 5) (.only 1 [] (xv 30 6) (.only 2 [0] (xD 31 1 29 30) (.only 3 [2,0] (xl 32 31) (.only 4 [3,2,0] (xv 33 32) (.only 5 [4,3,2,0] (ya 34 0 7 33) (.only 6 [4,3,2,0] (yl 35 1 34 33) (.only 7 [4,3,2,0] (yI 36 .eql 35 1 33) (.only 8 [4,3,2,0] (yv 37 36 33) (.only 9 [8,4,3,2,0] (za 38 0 7 37) (.only 10 [8,4,3,2,0] (zl 39 1 38 37) (.only 11 [8,4,3,2,0] (xg 40 (.call 328 [false] [.t 39]) 37 false) (.only 12 [4,3,2,0] (xg 41 (.pick (.t 37) (.c (.bool true)) (.t 40)) 33 true) (.only 13 [4,3,2,0] (xP 42 33 41) (.only 14 [13,4,3,2,0] (xv 43 42) (.take 15 (yv 44 4 43) (.take 16 (yv 45 6 43) (.take 17 (yI 46 .add 45 1 43) (.take 18 (xg 47 (.iad 1 (.t 44) (.t 46)) 43 true) (.take 19 (yl 48 1 47 43) (.only 20 [14,13,4,3,2,0] (ya 49 1 7 43) (.only 21 [14,13,4,3,2,0] (yl 50 1 49 43) (.only 22 [14,19,13,18,4,15,17,3,16,2,0] (xg 51 (.call 495 [false,false] [.t 48,.t 50]) 43 true) (.only 23 [14,22,13,19,4,18,3,15,17,2,16,0] (yN 52 51 43) (.only 24 [14,23,13,22,4,19,3,18,2,15,17,0,16] (xP 53 43 52) (.done))))))))))))))))))))))))))) (.cond 53 (xr [xv 54 3,xv 55 6,xo 56 (.mkSl [xz] 1 [(0,.t 55)]),xA 57 1 8 54 56,xv 3 57]) (.skip))))) (xr [xv 23 6,bI 24 .add 23 1,xv 6 24])))))) (kR [xv 58 3,xv 2 58]))))))⟩
def m502:MFn:=⟨30,[.t 2],kr [xo 2 (.mv (.c (.nil)))] (kr [xo 6 (.mkSl [xz,xz,xz,xz,xz] 0 []),xv 7 0,xA 8 5 40 6 7,xv 3 8] (kr [xv 9 0,xc1 10 501 (.t 9),xv 4 10] (.seq (kr [xI 5 0] (.blk 0 (.loop (.seq (kr [xv 11 5,xv 12 4,xe 13 12,bT 14 .lss 11 13] (kX 14 0)) (.seq (.blk 1 (.dreg (.take 0 (xv 17 3) (.take 1 (xv 18 4) (.take 2 (xv 19 5) (.take 3 (xD 20 1 18 19) (.take 4 (xl 21 20) (.take 5 (xv 22 4) (.only 6 [] (xv 23 5) (.only 7 [5] (xD 24 1 22 23) (.only 8 [7,5] (xl 25 24) (.only 9 [8,7,5] (bI 26 .add 25 1) (.only 10 [9,8,7,5] (xo 27 (.build [xz,xz,xz,xz,xz] [(0,1,xi 11),(4,1,.t 26)])) (.only 11 [0,1,2,3,4,5] (xD 28 5 17 21) (.only 12 [0,1,2,3,4,5] (xS 5 28 27) (.done)))))))))))))))) (xr [xv 15 5,bI 16 .add 15 1,xv 5 16])))))) (kR [xv 29 3,xv 2 29]))))⟩
def m503:MFn:=⟨29,[.cell 2 2 true],kr [xb 1 0,xo 2 (.alloc [.nil,.nil])] (kr [xm 5 2 1,xc1 6 238 (.t 5),xo 3 (.alloc [.nil,.nil]),xS 2 3 6] (.seq (kr [xI 4 0] (.blk 0 (.loop (.seq (kr [xv 7 4,xa 8 1 1,xl 9 8,xe 10 9,bT 11 .lss 7 10,xv 12 11,xg 13 (.load 2 true (.t 1)) 12 true,xg 14 (.call 62 [false] [.t 13]) 12 true,xP 15 12 14] (kX 15 0)) (.seq (.blk 1 (.dreg (.take 0 (xa 18 1 3) (.take 1 (xl 19 18) (.take 2 (xv 20 4) (.take 3 (xa 21 1 1) (.take 4 (xl 22 21) (.only 5 [] (xv 23 4) (.only 6 [4,3] (xD 24 1 22 23) (.only 7 [6,4,3] (xl 25 24) (.only 8 [7,6,4,3] (xc1 26 502 (.t 25)) (.only 9 [0,1,2,3,4] (xD 27 1 19 20) (.only 10 [0,1,2,3,4] (xS 1 27 26) (.done)))))))))))))) (xr [xv 16 4,bI 17 .add 16 1,xv 4 17])))))) (kR [xm 28 2 3,xS 2 2 28])))⟩
def m517:MFn:=⟨38,[.t 4],kr [xo 4 (.mv (.c (.nil)))] (kr [xv 8 0,xe 9 8,xo 10 (.mkS [.bool false] 1 (.t 9) (.t 9)),xv 5 10] (kr [xo 11 (.mkSl [xz] 0 []),xv 12 1,xA 13 1 8 11 12,xv 6 13] (.seq (.blk 0 (.loop (.seq (kr [xv 14 6,xe 15 14,bI 16 .gtr 15 0] (kX 16 0)) (.blk 1 (kr [xv 17 6,xo 18 (.iad 1 (.t 17) (xi 0)),xl 19 18,xv 7 19] (kr [xo 20 (.mkSl [xz] 0 []),xv 21 6,xo 22 (.cut 1 (.t 21) (some (xi 1)) none),xA 23 1 8 20 22,xv 6 23] (kr [xv 24 5,xv 25 7,xD 26 1 24 25,xl 27 26,xN 28 27] (.cond 28 (kr [xv 29 5,xv 30 7,xD 31 1 29 30,⟨none,.store 1 (.t 31) (.c (.bool true)),none⟩] (xr [xv 32 6,xv 33 0,xv 34 7,xc2 35 326 (.t 33) (.t 34),xA 36 1 8 32 35,xv 6 36])) (.skip))))))))) (kR [xv 37 5,xv 4 37]))))⟩
theorem qHv (code:List Int) (hb:code.length<2^62):qY Tryz.prog num 497 [.sl .fz 1 (bys code)] [] (.sl .own 5 (yV (iQ code (cJ code)).1)):=by
 refine EN m497 Tryz.func9 ?_
 unfold m497
 simp only [go_sem,seval]
 repeat refine K ?_
 refine zQ (rI (n1:=11) [(10,10)] (oO code hb) ?_ ?_ ?_ ?_ ?_ ?_ ?_) ?_
 any_goals (first | omega | (simp [wJ,wK]; done) | (simp [wJ,wK, *]; done))
 try simp only [go_sem,seval]
 repeat refine K ?_
 refine CA [(0,10)] (oQ code (cJ code) hb) ?_
 try simp only [go_sem,seval]
 repeat refine K ?_
 try simp only [go_sem,seval]
 repeat refine K ?_
 refine ⟨_,Sub.refl _,qU ?_⟩; simp [-wD9]
theorem qDw (code:List Int) (hb:code.length<2^62):qY Tryz.prog num 498 [.sl .fz 1 (bys code)] [] (.sl .own 5 (yV (iQ code (cJ code)).1)):=by
 refine EN m498 Tryz.func10 ?_
 unfold m498
 simp only [go_sem,seval]
 repeat refine K ?_
 refine zQ (rI (n1:=11) [(10,10)] (oO code hb) ?_ ?_ ?_ ?_ ?_ ?_ ?_) ?_
 any_goals (first | omega | (simp [wJ,wK]; done) | (simp [wJ,wK, *]; done))
 try simp only [go_sem,seval]
 repeat refine K ?_
 refine CA [(0,10)] (oQ code (cJ code) hb) ?_
 try simp only [go_sem,seval]
 repeat refine K ?_
 try simp only [go_sem,seval]
 repeat refine K ?_
 refine ⟨_,Sub.refl _,qU ?_⟩; simp [-wD9]
theorem qDv (code:List Int) (hb:code.length<2^62):qY Tryz.prog num 499 [.sl .fz 1 (bys code)] [] (.agg (jY .own (sB code (cJ code)).1)):=by
 refine EN m499 Tryz.func11 ?_
 unfold m499
 simp only [go_sem,seval]
 repeat refine K ?_
 refine zQ (rI (n1:=12) [(10,11)] (oO code hb) ?_ ?_ ?_ ?_ ?_ ?_ ?_) ?_
 any_goals (first | omega | (simp [wJ,wK]; done) | (simp [wJ,wK, *]; done))
 try simp only [go_sem,seval]
 repeat refine K ?_
 refine CA [(0,11)] (qJ2 code (cJ code) hb) ?_
 try simp only [go_sem,seval]
 repeat refine K ?_
 try simp only [go_sem,seval]
 repeat refine K ?_
 apply wI
 ·exact Sub.refl _
 ·simp [-wD9,-gD,]<;>(first | rfl | exact ⟨rfl,rfl⟩ | exact ⟨rfl,rfl,rfl⟩ | skip)
theorem qHu (code:List Int) (hb:code.length<2^62):qY Tryz.prog num 500 [.sl .fz 1 (bys code)] [] (.agg (jY .own (sB code (cJ code)).1)):=by
 refine EN m500 Tryz.func12 ?_
 unfold m500
 simp only [go_sem,seval]
 repeat refine K ?_
 refine zQ (rI (n1:=12) [(10,11)] (oO code hb) ?_ ?_ ?_ ?_ ?_ ?_ ?_) ?_
 any_goals (first | omega | (simp [wJ,wK]; done) | (simp [wJ,wK, *]; done))
 try simp only [go_sem,seval]
 repeat refine K ?_
 refine CA [(0,11)] (qJ2 code (cJ code) hb) ?_
 try simp only [go_sem,seval]
 repeat refine K ?_
 try simp only [go_sem,seval]
 repeat refine K ?_
 apply wI
 ·exact Sub.refl _
 ·simp [-wD9,-gD,]<;>(first | rfl | exact ⟨rfl,rfl⟩ | exact ⟨rfl,rfl,rfl⟩ | skip)
theorem qNq (l:List Ins) (hb:wF l 3=true):qY Tryz.prog num 517 [.sl .bw 5 (yV l),.sl .bw 1 (wE [0])] [] (.sl .own 1 (jA (xW l))):=by
 obtain ⟨hl1,hl2⟩:=zS hb
 refine EN m517 Tryz.func58 ?_
 unfold m517
 simp only [go_sem,seval]
 repeat refine K ?_
 refine qZ (ι:=List Bool×List Int) (fun q=>.mk [(0,.sl .bw 5 (yV l)),(5,.ns 10 0 l.length),(6,.ns 11 0 q.2.length)] [(10,1,jA q.1),(11,1,wE q.2)] 12) (fun q=>qP5 l q.1 q.2) (fun q=>3*cK q.1+q.2.length) (List.replicate l.length false,[0]) (qF6 (by omega)) ?_ ?_
 ·refine Sub.shape [] (fun m=>if m=11 then 12 else m) (by omega) ?_ ?_ ?_ ?_<;>simp [qK]
  all_goals (first | exact .inl (tH _ _) | exact ⟨.inl (tH _ _),.inl rfl⟩ | exact .inl rfl | rfl)
 ·rintro ⟨R,td⟩ hI
  simp only at hI
  have hRl:=hI.len
  simp only [go_sem,seval]
  refine qP (fun hc=>?_) (fun hc=>?_)
  ·rcases td with _ | ⟨a,tl⟩
   ·simp at hc
   have hat:=hI.tok a (by simp)
   obtain ⟨n,rfl⟩ :∃n:Nat,a=(n:Int):=⟨a.toNat,by omega⟩
   simp only [Int.toNat_natCast] at hat
   obtain ⟨k,_,hme⟩:=hI.at_
   simp only [List.length_cons] at hme
   have hgp:(wE ((n:Int)::tl)).getD 0 []=[.int .i64 n]:=rfl
   have hgr:=zR R n (by omega)
   have hnl:=eD l n
   cases hr:R.getD n false
   ·rw [hr] at hgr
    have hnx:=qMw hb hI hr
    have hf:=fV R n (by omega) hr
    simp only [go_sem,seval,hgp,hgr,hRl,tG]
    repeat refine K ?_
    refine CA [] (rT l n hb hat.2) ?_
    try simp only [go_sem,seval]
    repeat refine K ?_
    try simp only [go_sem,seval]
    repeat refine K ?_
    have e1:List.take (yO l n).length (yO l n)=yO l n:=wDo
    have e2:List.take tl.length tl=tl:=wDo
    rw [e1,e2]
    refine qM (R.set n true,tl++yO l n) ?_ ?_ ?_
    ·refine Sub.shape [] (fun m=>if m=11 then 15 else m) (by omega) ?_ ?_ ?_ ?_<;>simp [qK]
    ·exact hnx
    ·simp only [List.length_append]
     omega
   ·rw [hr] at hgr
    have hnx:=qMv hI hr
    simp only [go_sem,seval,hgp,hgr,hRl]
    repeat refine K ?_
    have e2:List.take tl.length tl=tl:=wDo
    rw [e2]
    refine qM (R,tl) ?_ ?_ ?_
    ·refine Sub.shape [] (fun m=>if m=11 then 13 else m) (by omega) ?_ ?_ ?_ ?_<;>simp [qK]
    ·exact hnx
    ·simp only
     omega
  ·have he:td=[]:=by
    cases td with
    | nil=>rfl
    | cons a tl=>simp at hc
   subst he
   have hR:=qMx hI
   simp only [go_sem,seval]
   repeat refine K ?_
   rw [hR]
   refine ⟨_,Sub.refl _,qU ?_⟩; simp [-wD9]
   all_goals (try simp [hRl])
theorem qV1 (op:Int):qW op 1 4=(decide (op=1)||nO op):=by
 rw [Bool.eq_iff_iff,qL]
 unfold nO
 simp only [Bool.or_eq_true,decide_eq_true_eq]
 omega
theorem qQj {l:List Ins} {i:Nat} (h:i+1=l.length):xH l (i+1)=xH l i:=by
 have:fX l i=false:=by
  cases hx:fX l i
  ·rfl
  ·have:=qJl hx
   unfold qP6 at this
   omega
 rw [sZ,this]
 simp
theorem rU (l:List Ins) (hl:l.length<2^40):qY Tryz.prog num 501 [.sl .bw 5 (yV l)] [] (.sl .own 1 (wE (dH l))):=by
 refine EN m501 Tryz.func15 ?_
 unfold m501
 simp only [go_sem,seval]
 repeat refine K ?_
 refine CA [] (qHg l hl) ?_
 try simp only [go_sem,seval]
 repeat refine K ?_
 cases hb:wF l 3
 ·have hf:dH l=[]:=by simp [dH,hb]
  have hv:dO l=[]:=by simp [dO,hb]
  rw [hf,hv]
  try simp only [go_sem,seval]
  repeat refine K ?_
  refine ⟨_,Sub.refl _,qU ?_⟩; simp [-wD9]
  all_goals rfl
 obtain ⟨hl1,hl2⟩:=zS hb
 have hrk:=qNq l hb
 have hrc:=(nY hb).1
 have hll:=qC0 hb
 have hdl:dH l=xH l l.length:=by simp [dH,hb]
 have hda:=fun a ha=>@qOc l hb a ha
 have hrow:=fun a=>@qJ0 l a
 rw [hdl]
 generalize dO l=V at *
 have hv0 :¬(V.length:Int)=0:=by omega
 try simp only [go_sem,seval,hv0]
 repeat refine K ?_
 have hbw:bwR [[AV.int .i64 0]]=wE [0]:=rfl
 refine CA [] (hrk) ?_
 try simp only [go_sem,seval]
 repeat refine K ?_
 generalize xW l=R at *
 try simp only [go_sem,seval]
 repeat refine K ?_
 refine qZ (ι:=Nat) (fun i=>.mk [(0,.sl .bw 5 (yV l)),(3,.ns 10 0 (xH l i).length),(4,.ns 11 0 l.length),(5,.ns 13 0 l.length),(6,.int .i64 i)] [(10,1,wE (xH l i)),(11,1,jG .own V),(13,1,jA R)] 14) (fun i=>i+1≤l.length) (fun i=>l.length-i) 0 (by simp; omega) ?_ ?_
 ·refine Sub.shape [] id (by omega) ?_ ?_ ?_ ?_<;>simp [qK]
  all_goals (first | rfl | exact .inl rfl | exact ⟨rfl,by omega⟩ | omega | trace_state)
 ·intro i hi
  simp only [go_sem,seval,qN (i:=i) (by omega)]
  refine qP (fun hc=>?_) (fun hc=>?_)
  ·simp only [decide_eq_true_eq] at hc
   have hi':i<l.length:=by omega
   have hg:=jQ l i hi'
   have hgr:=zR R i (by omega)
   have hst:=sZ l i
   have hlen:=lI l i
   have hd:=hda i hi'
   rw [qV1] at hd
   generalize l.getD i default=x at hg hd
   have hno:fX l i=false→xH l (i+1)=xH l i:=fun h=>by rw [hst,h]; simp
   have hyes:fX l i=true→xH l (i+1)=xH l i++[(i:Int)]:=fun h=>by rw [hst,h]; simp
   clear hst
   have h3:i+1<l.length:=by omega
   have d3:((i+1:Nat):Int)<(l.length:Nat):=by omega
   have gV:=mK .own V (i+1) (by omega)
   have gVs :∀r,((jG .own V).set (i+1) r).getD (i+1) []=r:=fun r=>jR _ _ _ _ (by rw [uE]; omega)
   have hV:(jG .own V).set (i+1) [.sl .own 1 (wE (V.getD (i+1) []))]=jG .own V:=by rw [←gV]; exact jP _ _ _ (by rw [uE]; omega)
   have hr4:=hrow (i+1)
   rw [decide_eq_true h3] at hd
   generalize V.getD (i+1) []=v at *
   have hVl:i+1<V.length:=by omega
   cases h2:R.getD i false
   ·rw [h2] at hd hgr
    simp only [Bool.and_false,Bool.false_and] at hd
    rw [←hno hd] at *
    simp only [go_sem,seval,hg,hgr,qN (i:=i) (by omega)]
    repeat refine K ?_
    try simp only [go_sem,seval]
    repeat refine K ?_
    refine qM (i+1) ?_ ?_ ?_
    ·refine Sub.shape [] id (by omega) ?_ ?_ ?_ ?_<;>simp [qK]
    ·exact h3
    ·omega
   rw [h2] at hd hgr
   by_cases h11:x.op=1
   ·rw [decide_eq_true h11] at hd
    simp only [Bool.true_or,Bool.true_and] at hd
    simp only [go_sem,seval,hg,hgr,h11,qN (i:=i) (by omega),gV,gVs,hVl,d3,h3]
    repeat refine K ?_
    try simp only [go_sem,seval]
    repeat refine K ?_
    refine DA [] (iM v x.r (by omega)) ?_
    try simp only [go_sem,seval]
    repeat refine K ?_
    by_cases h4:x.r∈v
    ·have d4:decide (x.r∈v)=true:=decide_eq_true h4
     rw [d4] at hd
     rw [←hno hd] at *
     try simp only [go_sem,seval,d4,qN (i:=i) (by omega)]
     repeat refine K ?_
     refine qM (i+1) ?_ ?_ ?_
     ·refine Sub.trans (Sub.foldAt 11 0 15 rfl (by simp [-gD]<;>omega) rfl (by decide) (by decide) rfl (by simp<;>omega)) ?_
      simp only [fS,fS3,qA,qC,hV]
      refine Sub.shape [] id (by omega) ?_ ?_ ?_ ?_<;>simp [qK]
     ·exact h3
     ·omega
    ·have d4:decide (x.r∈v)=false:=decide_eq_false h4
     rw [d4] at hd
     try simp only [go_sem,seval,d4,qN (i:=i) (by omega)]
     repeat refine K ?_
     refine qM (i+1) ?_ ?_ ?_
     ·rw [hyes hd]
      refine Sub.trans (Sub.foldAt 11 0 15 rfl (by simp [-gD]<;>omega) rfl (by decide) (by decide) rfl (by simp<;>omega)) ?_
      simp only [fS,fS3,qA,qC,hV]
      refine Sub.shape [] (fun n=>if n=10 then 17 else n) (by omega) ?_ ?_ ?_ ?_<;>simp [qK]
      all_goals exact .inl (eF _ _)
     ·exact h3
     ·omega
   have d1:decide (x.op=1)=false:=decide_eq_false h11
   rw [d1,Bool.false_or] at hd
   simp only [go_sem,seval,hg,hgr,d1,qN (i:=i) (by omega),gV,gVs,hVl,d3,h3]
   repeat refine K ?_
   refine DA [] (qNo x.op) ?_
   try simp only [go_sem,seval]
   repeat refine K ?_
   cases ht:nO x.op
   ·rw [ht] at hd
    simp only [Bool.false_and] at hd
    rw [←hno hd] at *
    try simp only [go_sem,seval,qN (i:=i) (by omega)]
    repeat refine K ?_
    try simp only [go_sem,seval]
    repeat refine K ?_
    refine qM (i+1) ?_ ?_ ?_
    ·refine Sub.shape [] id (by omega) ?_ ?_ ?_ ?_<;>simp [qK]
    ·exact h3
    ·omega
   ·rw [ht] at hd
    simp only [Bool.true_and] at hd
    try simp only [go_sem,seval,gV,gVs,hVl,d3,h3,qN (i:=i) (by omega)]
    repeat refine K ?_
    try simp only [go_sem,seval]
    repeat refine K ?_
    refine DA [] (iM v x.r (by omega)) ?_
    try simp only [go_sem,seval]
    repeat refine K ?_
    by_cases h4:x.r∈v
    ·have d4:decide (x.r∈v)=true:=decide_eq_true h4
     rw [d4] at hd
     rw [←hno hd] at *
     try simp only [go_sem,seval,d4,qN (i:=i) (by omega)]
     repeat refine K ?_
     refine qM (i+1) ?_ ?_ ?_
     ·refine Sub.trans (Sub.foldAt 11 0 15 rfl (by simp [-gD]<;>omega) rfl (by decide) (by decide) rfl (by simp<;>omega)) ?_
      simp only [fS,fS3,qA,qC,hV]
      refine Sub.shape [] id (by omega) ?_ ?_ ?_ ?_<;>simp [qK]
     ·exact h3
     ·omega
    ·have d4:decide (x.r∈v)=false:=decide_eq_false h4
     rw [d4] at hd
     try simp only [go_sem,seval,d4,qN (i:=i) (by omega)]
     repeat refine K ?_
     refine qM (i+1) ?_ ?_ ?_
     ·rw [hyes hd]
      refine Sub.trans (Sub.foldAt 11 0 15 rfl (by simp [-gD]<;>omega) rfl (by decide) (by decide) rfl (by simp<;>omega)) ?_
      simp only [fS,fS3,qA,qC,hV]
      refine Sub.shape [] (fun n=>if n=10 then 17 else n) (by omega) ?_ ?_ ?_ ?_<;>simp [qK]
      all_goals exact .inl (eF _ _)
     ·exact h3
     ·omega
  ·simp only [decide_eq_false_iff_not] at hc
   have hie:i+1=l.length:=by omega
   have hlast:=qQj hie
   rw [hie] at hlast
   rw [hlast]
   simp only [go_sem,seval]
   repeat refine K ?_
   refine ⟨_,Sub.refl _,qU ?_⟩; simp [-wD9]
theorem nA (l:List Ins) (hl:l.length<2^40):qY Tryz.prog num 502 [.sl .bw 5 (yV l)] [] (.sl .own 5 (yV (vP l))):=by
 have hdl:(dH l).length≤l.length:=by
  unfold dH
  split
  ·exact lI l _
  ·simp
 have hdi:=fun d=>@pB l d
 have he:=qMa l
 refine EN m502 Tryz.func18 ?_
 unfold m502
 simp only [go_sem,seval]
 repeat refine K ?_
 refine CA [] (rU l hl) ?_
 try simp only [go_sem,seval]
 repeat refine K ?_
 generalize dH l=D at *
 try simp only [go_sem,seval]
 repeat refine K ?_
 refine qZ (ι:=Nat) (fun i=>.mk [(3,.ns 11 0 l.length),(4,.ns 12 0 D.length),(5,.int .i64 i)] [(11,5,yV (trD l (D.take i))),(12,1,wE D)] 13) (fun i=>i≤D.length) (fun i=>D.length-i) 0 (by simp) ?_ ?_
 ·refine Sub.shape [] id (by omega) ?_ ?_ ?_ ?_<;>simp [qK]
  all_goals (first | rfl | exact .inl rfl)
 ·intro i hi
  simp only [go_sem,seval]
  refine qP (fun hc=>?_) (fun hc=>?_)
  ·simp only [decide_eq_true_eq] at hc
   have hil:i<D.length:=by omega
   have hg:=qI D i hil
   obtain ⟨d0,d1,_,_⟩:=hdi _ (yB D i 0 hil)
   have htl:=pO (D.take i) l
   have hst:trD l (D.take (i+1))=(trD l (D.take i)).set (D.getD i 0).toNat ⟨11,0,0,0,D.getD i 0+1⟩:=by rw [jX D 0 i hil,qEr]
   have hgo:=jQ (trD l (D.take i)) (D.getD i 0).toNat (by omega)
   have hw:IntKind.i64.wrap (D.getD i 0+1)=D.getD i 0+1:=yL (by omega) (by omega)
   have hd2:D.getD i 0<(l.length:Nat):=by omega
   have hsg:=qJ6 (trD l (D.take i)) (D.getD i 0).toNat ⟨11,0,0,0,D.getD i 0+1⟩
   simp only at hsg
   rw [←hst] at hsg
   generalize D.getD i 0=d at *
   simp only [go_sem,seval,hg,d0,hd2,d1,hw,hgo,htl,hsg,qN (i:=i) (by omega)]
   repeat refine K ?_
   refine qM (i+1) ?_ hil (by omega)
   refine Sub.shape [] id (by omega) ?_ ?_ ?_ ?_<;>simp [qK]
  ·simp only [decide_eq_false_iff_not] at hc
   have hie:i=D.length:=by omega
   subst hie
   rw [wDo] at *
   rw [he]
   simp only [go_sem,seval]
   repeat refine K ?_
   refine ⟨_,Sub.refl _,qU ?_⟩; simp [-wD9]
   have htb:=bR l
   exact ⟨by omega,fun h=>absurd htb h⟩
theorem qDq (p:wQ) (hp:aW p):qY Tryz.prog num 503 [.agg (jY .bw p)] [] (.agg (jY .own (wX p))):=by
 have hp':=hp
 obtain ⟨h1,h2,h3⟩:=hp
 have lp:=qQ6 p hp'
 have po:=qHf p (by omega) (by omega) (fun b hb=>by have:=h3 b hb; omega)
 refine EN m503 Tryz.func20 ?_
 unfold m503
 simp only [go_sem,seval]
 repeat refine K ?_
 refine CA [] (lp) ?_
 try simp only [go_sem,seval]
 repeat refine K ?_
 try simp only [go_sem,seval]
 repeat refine K ?_
 refine qZ (ι:=Nat) (fun i=>.mk [(1,.ptr 10 0 0),(2,.ptr 11 0 0),(3,.ptr 14 0 0),(4,.int .i64 i)] [(10,2,[jY .bw p]),(11,2,[[.nil,.nil]]),(14,2,[[.sl .own 1 (wE p.caps),.sl .own 1 (yT .own (nI vP p.bods i))]])] 15) (fun i=>i≤p.bods.length∧(yR p=false→i=0)) (fun i=>p.bods.length-i) 0 (by simp) ?_ ?_
 ·refine Sub.trans (Sub.fold1 14 0 12 rfl (by simp [-gD]<;>omega) rfl (by decide) (by decide) rfl) ?_
  simp only [fS,fS3,qA,qC]
  refine Sub.trans (Sub.fold1 14 1 13 rfl (by simp [-gD]<;>omega) rfl (by decide) (by decide) rfl) ?_
  simp only [fS,fS3,qA,qC]
  have e0:=pZ vP p.bods
  refine Sub.shape [] id (by omega) ?_ ?_ ?_ ?_<;>simp [qK]
  all_goals (rw [e0])
  all_goals (exact .inl rfl)
 ·rintro i ⟨hi,hio⟩
  have hml:=iL vP p.bods i hi
  by_cases hlt:i<p.bods.length
  ·have d1:decide ((i:Int)<(p.bods.length:Int))=true:=by simp; omega
   have hgb:=wB .bw p.bods i hlt
   have hb3:=h3 _ (yB p.bods i [] hlt)
   have hst:=qIy vP p.bods i hlt
   have hbl:=bR (p.bods.getD i [])
   have fb:=nA (p.bods.getD i []) (by omega)
   have hgs:(yT .own (nI vP p.bods i)).getD i []=[.sl .own 5 (yV (p.bods.getD i []))]:=by rw [wB .own _ i (by omega),qIz vP p.bods i hlt]
   simp only [go_sem,seval,d1]
   repeat refine K ?_
   refine CA [] (po) ?_
   try simp only [go_sem,seval]
   repeat refine K ?_
   cases hpo:yR p
   ·have hi0:=hio hpo
    subst hi0
    have hf:wX p=p:=by simp [wX,hpo]
    try simp only [go_sem,seval,pZ]
    repeat refine K ?_
    rw [hf]
    refine ⟨_,Sub.refl _,qU ?_⟩; simp [-wD9]
   ·generalize p.bods.getD i []=b at hgb hb3 hst hbl fb hgs
    try simp only [go_sem,seval,hgb,hml]
    repeat refine K ?_
    refine DA [] (fb) ?_
    try simp only [go_sem,seval]
    repeat refine K ?_
    generalize vP b=fbb at hst hbl
    try simp only [go_sem,seval,hml,hgs,qN (i:=i) (by omega)]
    repeat refine K ?_
    refine qM (i+1) ?_ (by first | exact ⟨hlt,by simp⟩ | exact hlt) (by omega)
    have hml2:=iL vP p.bods (i+1) hlt
    have hbs:=qJw .own (nI vP p.bods i) i fbb
    rw [←hst] at hbs
    refine Sub.trans (Sub.foldAt 15 0 16 rfl (by simp [-gD]<;>omega) rfl (by decide) (by decide) rfl (by simp<;>omega)) ?_
    simp only [fS,fS3,qA,qC,hbs]
    refine Sub.trans (Sub.fold1 14 1 15 rfl (by simp [-gD]<;>omega) rfl (by decide) (by decide) rfl) ?_
    simp only [fS,fS3,qA,qC,hbs,hml2]
    refine Sub.shape [] id (by omega) ?_ ?_ ?_ ?_<;>simp [qK]
  ·have d1:decide ((i:Int)<(p.bods.length:Int))=false:=by simp; omega
   have he:i=p.bods.length:=by omega
   subst he
   cases hpo:yR p
   ·have hi0:=hio hpo
    have hf:wX p=p:=by simp [wX,hpo]
    have hm0:nI vP p.bods p.bods.length=p.bods:=by
     have:=pZ vP p.bods
     rw [←hi0] at this
     exact this
    simp only [go_sem,seval,d1,hm0]
    repeat refine K ?_
    rw [hf]
    refine ⟨_,Sub.refl _,qU ?_⟩; simp [-wD9]
   ·have hf:wX p=⟨p.caps,p.bods.map vP⟩:=by simp [wX,hpo]
    simp only [go_sem,seval,d1,qNh]
    repeat refine K ?_
    rw [hf]
    refine ⟨_,Sub.refl _,qU ?_⟩; simp [-wD9]
end Go.Sep
