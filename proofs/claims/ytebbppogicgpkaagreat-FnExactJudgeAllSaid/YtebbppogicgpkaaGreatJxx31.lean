/- Contracts of functions. -/
import Derived.Test.YtebbppogicgpkaaGreatJxx27
import Derived.Test.YtebbppogicgpkaaGreatJxx30
open List renaming drop_one → qYj
namespace Go.Sep
set_option maxHeartbeats 16000000
open Go.Proofs
set_option linter.unusedSimpArgs false
set_option linter.unusedVariables false
set_option maxRecDepth 100000
open Nat renaming reduceAdd → qA, reduceMul → qB, reduceEqDiff → qC, reduceBEq → qD
open Int renaming reduceToNat → qE, reduceEq → qF, reduceLT → qG, reduceLE → qH
open List renaming getD_eq_getElem?_getD → gD
def m234:MFn:=⟨48,[.t 10],kr [xb 5 0,xb 8 3,xb 9 4,xF 10] (.seq (kr [xa 13 0 8,xl 14 13,bI 15 .eql 14 8] (.cond 15 (.seq (.dreg (.take 0 (xa 16 1 9) (.take 1 (xl 17 16) (.take 2 (xv 18 1) (.take 3 (xD 19 4 17 18) (.take 4 (xa 20 1 19) (.take 5 (xl 21 20) (.only 6 [] (xa 22 1 8) (.only 7 [] (xl 23 22) (.only 8 [5,4,3,1,2,0] (xD 24 1 21 23) (.only 9 [8,5,4,3,1,2,0] (xl 25 24) (.only 10 [9,8,5,4,3,1,2,0] (bI 26 .eql 25 0) (.only 11 [0,1,2,3,4,5] (xv 10 26) (.done)))))))))))))) (.ret)) (.skip))) (kr [xm 28 2 5,xv 29 1,xv 30 2,xc3 31 224 (.t 28) (.t 29) (.t 30),xv 27 31,xX 32 27 0,xX 33 27 1,xv 11 32,xv 12 33] (kR [xv 34 11,bI 35 .geq 34 0,xv 36 35,ya 37 1 5 36,yl 38 1 37 36,yv 39 1 36,xg 40 (.iad 1 (.t 38) (.t 39)) 36 true,yl 41 1 40 36,yv 42 11 36,xg 43 (.iad 5 (.t 41) (.t 42)) 36 true,xg 44 (.load 5 true (.t 43)) 36 true,xg 45 (.call 285 [false] [.t 44]) 36 true,yI 46 .eql 45 1 36,xP 47 36 46,xv 10 47])))⟩
def m406:MFn:=⟨98,[.t 4,.cell 5 4 true,.t 6],kr [xb 2 0,xo 4 (.mv (.c (.nil))),xo 5 (.alloc [.nil,.nil,.nil,.nil]),xF 6] (kr [xo 15 (.mkSl [xz] 0 []),xv 7 15] (kr [xm 17 2 2,xc1 18 391 (.t 17),xv 16 18,xX 19 16 0,xX 20 16 1,xo 8 (.alloc [.nil,.nil,.nil,.nil]),xS 4 8 19,xv 9 20] (.seq (kr [xv 21 9,xN 22 21,xv 23 22,zv 24 1 23,ze 25 24 23,zI 26 .gtr 25 4000 23,xQ 27 23 26] (kF 27 [xo 28 (.mkSl [xz] 0 []),xo 29 (.build [.nil,.nil,.nil,.nil] []),xv 4 28,xS 4 5 29,xF 6])) (.seq (kr [xI 10 0] (.blk 0 (.loop (.seq (kr [xv 30 10,xv 31 1,xe 32 31,bT 33 .lss 30 32] (kX 33 0)) (.seq (.blk 1 (kr [xv 36 1,xv 37 10,xD 38 2 36 37,xm 39 2 38,xo 11 (.alloc [xz,xz]),xS 2 11 39] (.seq (kr [xa 40 0 11,xl 41 40,xa 42 1 8,xl 43 42,xe 44 43,bI 45 .sub 44 1,xc3 46 64 (.t 41) (xi 0) (.t 45),xN 47 46,xv 48 47,za 49 1 8 48,zl 50 1 49 48,za 51 0 11 48,zl 52 1 51 48,xg 53 (.iad 4 (.t 50) (.t 52)) 48 false,za 54 3 53 48,zl 55 1 54 48,zI 56 .neq 55 0 48,xQ 57 48 56] (.cond 57 (.exit 1) (.skip))) (kr [xa 58 1 8,xl 59 58,xa 60 0 11,xl 61 60,xD 62 4 59 61,xa 63 0 62,xl 64 63,xv 12 64] (kr [xm 66 4 8,xm 67 2 11,xo 68 (.call 357 [true,false] [.t 66,.t 67]),xv 65 68,xX 69 65 0,xX 70 65 1,xo 13 (.alloc [.nil,.nil,.nil,.nil]),xS 4 13 69,xv 14 70] (kr [xm 71 4 13,xS 4 8 71] (.seq (.dreg (.only 0 [] (xv 72 14) (.only 1 [] (bI 73 .eql 72 0) (.only 2 [] (xv 74 73) (.take 3 (xg 75 (.load 2 true (.t 2)) 74 true) (.take 4 (ya 76 0 11 74) (.take 5 (yl 77 1 76 74) (.take 6 (yv 78 12 74) (.take 7 (ya 79 0 8 74) (.take 8 (yl 80 1 79 74) (.take 9 (ya 81 0 11 74) (.take 10 (yl 82 1 81 74) (.take 11 (xg 83 (.iad 1 (.t 80) (.t 82)) 74 true) (.take 12 (yl 84 1 83 74) (.take 13 (yv 85 12 74) (.take 14 (xg 86 (.iad 5 (.t 84) (.t 85)) 74 true) (.take 15 (xg 87 (.load 5 true (.t 86)) 74 true) (.only 16 [] (xg 88 (.load 4 true (.t 8)) 74 true) (.only 17 [3,5,6,15,4,14,12,13,11,8,10,7,9] (xg 89 (.call 234 [false,false,false,false,true] [.t 75,.t 77,.t 78,.t 87,.t 88]) 74 true) (.only 18 [17,3,5,6,15,4,14,12,13,11,8,10,7,9] (xP 90 74 89) (.done))))))))))))))))))))) (.cond 90 (xr [xv 91 7,xa 92 0 11,xl 93 92,xo 94 (.mkSl [xz] 1 [(0,.t 93)]),xA 95 1 8 91 94,xv 7 95]) (.skip))))))))) (xr [xv 34 10,bI 35 .add 34 1,xv 10 35])))))) (.seq (.dreg (.take 0 (xv 96 7) (.take 1 (xm 97 4 8) (.only 2 [0] (xv 4 96) (.only 3 [0,1] (xS 4 5 97) (.only 4 [0,1] (xT 6) (.done))))))) (.ret))))))⟩
def m407:MFn:=⟨49,[.t 4,.cell 5 4 true,.t 6],kr [xb 2 0,xo 4 (.mv (.c (.nil))),xo 5 (.alloc [.nil,.nil,.nil,.nil]),xF 6] (kr [xm 15 2 2,xc1 16 392 (.t 15),xv 14 16,xX 17 14 0,xX 18 14 1,xo 7 (.alloc [.nil,.nil,.nil,.nil]),xS 4 7 17,xv 8 18] (.seq (kr [xv 19 8,xN 20 19,xv 21 20,zv 22 1 21,ze 23 22 21,zI 24 .gtr 23 4000 21,xQ 25 21 24] (kF 25 [xo 26 (.build [.nil,.nil,.nil,.nil] []),xo 4 (.mv (.c (.nil))),xS 4 5 26,xF 6])) (kr [xo 27 (.mkSl [xz] 0 []),xv 9 27] (.seq (kr [xv 28 1,xe 29 28,xI 30 0] (.blk 0 (.loop (kr [bT 31 .lss 30 29] (.seq (kX 31 0) (.seq (.blk 1 (kr [xD 32 2 28 30,xm 33 2 32,xo 11 (.alloc [xz,xz]),xS 2 11 33] (kr [xm 35 2 2,xm 36 2 11,xo 37 (.call 428 [false,true,false] [.t 35,.t 7,.t 36]),xv 34 37,xX 38 34 0,xX 39 34 1,xv 12 38,xv 13 39] (kr [xv 40 13] (.cond 40 (xr [xv 41 9,xa 42 0 11,xl 43 42,xo 44 (.mkSl [xz] 1 [(0,.t 43)]),xA 45 1 8 41 44,xv 9 45]) (.skip)))))) (xr [bI 46 .add 30 1,xv 30 46]))))))) (.seq (.dreg (.take 0 (xv 47 9) (.take 1 (xm 48 4 7) (.only 2 [0] (xv 4 47) (.only 3 [0,1] (xS 4 5 48) (.only 4 [0,1] (xT 6) (.done))))))) (.ret))))))⟩
theorem fZ {p:wU} (h:(launch p).2=true):jU p=true∧bV p.caps=true∧(launch p).1.codes=p.bods.map (comp p.caps)∧jG (launch p).1=true:=by
 unfold launch at h⊢
 cases hc:(gF p).2
 ·rw [hc] at h
  exact absurd h (by simp)
 rw [hc] at h
 simp only [if_true] at h⊢
 have hcc:jU p=true∧bV p.caps=true∧(gF p).1=p.bods.map (comp p.caps):=by
  unfold gF at hc⊢
  split
  ·rename_i hh
   simp only [Bool.and_eq_true] at hh
   exact ⟨hh.1.1,hh.1.2,rfl⟩
  ·rename_i hh
   rw [if_neg hh] at hc
   exact absurd hc (by simp)
 refine ⟨hcc.1,hcc.2.1,?_,?_⟩
 ·unfold dS at h⊢
  split
  ·exact hcc.2.2
  ·rename_i hh
   rw [if_neg hh] at h
   exact absurd h (by simp)
 ·unfold dS at h⊢
  split
  ·rename_i hh
   exact hh
  ·rename_i hh
   rw [if_neg hh] at h
   exact absurd h (by simp)
def wT (p:wU) (l:List uF):List Int×wA×Bool :=
 if (launch p).2&&decide ((l.length:Int)≤4000) then (bO p (launch p).1 l,cG (launch p).1 l,true) else ([],sB,false)
theorem fE (p:wU) (l:List uF):(wT p l).1.length≤4000∧rO (wT p l).2.1≤4000000:=by
 unfold wT
 split
 ·rename_i h
  simp only [Bool.and_eq_true,decide_eq_true_eq] at h
  have:=lP p (launch p).1 l
  exact ⟨by simp only; omega,qMv (qBy l (fZ h.1).2.2.2)⟩
 ·exact ⟨by simp,by decide⟩
theorem qLe {p:wU} {M M':wA} {j:Nat} (h1:jU p=true) (h2:bV p.caps=true) (h3:M.codes=p.bods.map (comp p.caps)) (hM:MOk M) (hM':MOk M') (hj:j<M.cores.length) (hc':M'.cores.length=M.cores.length) :
  zP p (wD M j) (qJ M' j).regs j (qJ M j).at_=kH p (wD M j) (qJ M' j).regs j (qJ M j).at_∧qO (wD M j).r 0 7=true∧(qJ M' j).regs.length=8∧j<p.bods.length:=by
 have hk:=hM.core j hj
 have hr:=(hM'.core j (by omega)).regs
 have hl:M.codes.length=p.bods.length:=by rw [h3,List.length_map]
 have hjb:j<p.bods.length:=by have:=hM.cores; omega
 have hcg:M.codes.getD j []=comp p.caps (p.bods.getD j []):=by
  rw [h3]
  simp [List.getD_eq_getElem?_getD,hjb]
 have hst:wD M j=(comp p.caps (p.bods.getD j [])).getD (qJ M j).at_.toNat default:=by
  unfold wD
  rw [hcg]
 have h0:=hk.at0
 have h1':=hk.at1
 rw [hcg] at h1'
 have hr7:qO (wD M j).r 0 7=true:=by
  obtain ⟨a,b,_⟩:=dB (aY hM hj)
  rw [qP]
  omega
 refine ⟨?_,hr7,hr,hjb⟩
 rw [hst] at hr7⊢
 exact qP2 h1 h2 hjb h0 h1' hr hr7
theorem qJj (f:Nat→Nat) (l:List aH):cX f (jW l)=jW l:=iR f _ ((zJ l).2 trivial)
theorem qRe {A:Nat→Prop} (l:List aH):okR A (jW l)↔True:=by simp [fX _ ((zJ l).2 trivial)]
theorem qJ9 (f:Nat→Nat) (l:List yH):cX f (jB l)=jB l:=iR f _ ((fT l).2 trivial)
theorem qQy {A:Nat→Prop} (l:List yH):okR A (jB l)↔True:=by simp [fX _ ((fT l).2 trivial)]
attribute [go_sem] qJj qJ9
attribute [simp] qJj qJ9 qRe qQy
@[simp] def qOh (m:wA) (j:Nat):FP:=[(0,some (1,(codes .own m.codes).set j [.ns 4 0 (m.codes.getD j []).length]),some (1,(codes .own m.codes).set j [.ns 4 0 (m.codes.getD j []).length])),(1,some (4,cores .own m.cores),some (4,cores .own m.cores)),(2,some (1,jR .own m.mem.cells),some (1,jR .own m.mem.cells)),(3,some (2,jW m.tr),some (2,jW m.tr)),(4,some (5,jB (m.codes.getD j [])),some (5,jB (m.codes.getD j [])))]
attribute [go_sem] qOh
theorem qUw (m:wA) (j:Nat):HB (vU (qOh m j)) 10:=by
 refine vW _ _ _ _ (vW _ _ _ _ (vW _ _ _ _ (vW _ _ _ _ (vW _ _ _ _ ((mC _).2 trivial) (by decide) ?_) (by decide) ?_) (by decide) ?_) (by decide) ?_) (by decide) (qHy ?_ _ ?_)<;>simp [yZ,vI,bnd]
theorem qAj (p:wU) (s:yH) (m:wA) (j:Nat) (at_:Int) (hp:vY p) (hpo:jU p=true) (hj:j<m.cores.length) (hb:j<p.bods.length) (hr:(qJ m j).regs.length=8) (hs:qO s.r 0 7=true) :
  qU Tryz.prog num 234 [.agg (yT .bw p),.int .i64 j,.int .i64 at_,.agg (bU s),mJ m] (qOh m j) (.bool (kH p s (qJ m j).regs j at_)):=by
 refine EH m234 Tryz.func71 (hh:=qUw m j) ?_
 unfold m234
 have hcg:=jZ .own m.cores j hj
 have hk:m.cores.getD j default=qJ m j:=rfl
 rw [hk] at hcg
 have hs':=qP.1 hs
 have hrl:s.r.toNat<(qJ m j).regs.length:=by omega
 by_cases h8:s.op=8
 ·have hs2:(cores .own m.cores).set j [.int .i64 (qJ m j).at_,.sl .own 1 (wQ (qJ m j).regs),.sl .own 1 (wQ (qJ m j).view),.int .i64 (qJ m j).st]=cores .own m.cores:=by rw [←hcg,wP _ _ _ (by rw [jT]; exact hj)]
  simp only [go_sem,seval,h8,hcg,qI (qJ m j).regs s.r.toNat hrl]
  repeat refine K ?_
  apply wS
  ·refine FA 1 1 13 ?_
   exact Sub.refl _
  ·simp [-qYj,-gD,hs2,kH,h8,wE,put,del]<;>(first | rfl | exact ⟨rfl,rfl⟩ | exact ⟨rfl,rfl,rfl⟩ | skip)
 have hpl:vK p j at_=jP (p.bods.getD j []) 0 0 at_:=by
  unfold vK
  have hw:qO (j:Int) 0 ((p.bods.length:Int)-1)=true:=by rw [qP]; omega
  rw [hpo,hw]
  rfl
 have hlt:=qAp (p.bods.getD j []) 0 0 at_
 rw [←hpl] at hlt
 have hcs:kH p s (qJ m j).regs j at_=(decide (0≤(vK p j at_).1)&&decide (wH ((p.bods.getD j []).getD (vK p j at_).1.toNat default)=1)):=by
  simp [kH,h8]
 rw [hcs]
 clear hcs hpl
 simp only [go_sem,seval,h8]
 refine CA [] (lS p j at_ hp) ?_
 try simp only [go_sem,seval]
 generalize (vK p j at_).1=pl at *
 by_cases h0:0≤pl
 case neg =>
  try simp only [go_sem,seval,h0]
  apply wS
  ·exact Sub.refl _
  ·simp [-qYj,-gD,h0]<;>(first | rfl | exact ⟨rfl,rfl⟩ | exact ⟨rfl,rfl,rfl⟩ | skip)
 obtain ⟨i,rfl⟩:=Int.eq_ofNat_of_zero_le h0
 have hi:i<(p.bods.getD j []).length:=by omega
 have hbg:=qZ .bw p.bods j hb
 have hig:=uW (p.bods.getD j []) i hi
 generalize p.bods.getD j []=b at *
 simp only [Int.toNat_natCast]
 try simp only [go_sem,seval,h0,hbg,hig]
 repeat refine K ?_
 refine CA [] (xB (b.getD i default)) ?_
 try simp only [go_sem,seval]
 apply wS
 ·exact Sub.refl _
 ·simp [-qYj,-gD,h0]<;>(first | rfl | exact ⟨rfl,rfl⟩ | exact ⟨rfl,rfl,rfl⟩ | skip)
theorem qEc (p:wU) (m:wA) (l:List uF) (i:Nat) (h:i<l.length):bO p m (l.take (i+1))=bO p m (l.take i)++(if did p (cG m (l.take i)) (l.getD i default) then [(l.getD i default).who] else []):=by
 rw [bL l default i h,qEb]
theorem eQ (p:wU) (l:List uF) (hp:vY p) (hl:l.length<2^40) (hx :∀x∈l,tW x):qU Tryz.prog num 407 [.agg (yT .bw p),.sl .bw 2 (dR l)] [] (.tup [.sl .own 1 (wQ (wT p l).1),.agg (qY .own (wT p l).2.1),.bool (wT p l).2.2]):=by
 refine EN m407 Tryz.func16 ?_
 unfold m407
 simp only [go_sem,seval]
 refine CA [] (qIs p hp) ?_
 try simp only [go_sem,seval]
 cases hok:(launch p).2
 ·have hr:wT p l=([],sB,false):=by simp [wT,hok]
  rw [hr]
  try simp only [go_sem,seval,hok]
  apply wG (by simp)
  ·exact Sub.refl _
  ·simp [-qYj,-gD,qY,sB,uD]<;>(first | rfl | exact ⟨rfl,rfl⟩ | exact ⟨rfl,rfl,rfl⟩ | skip)
 have hlc:=fZ hok
 generalize hm:(launch p).1=m at *
 by_cases h4:(4000:Int)<l.length
 ·have h4' :¬(l.length:Int)≤4000:=by omega
  have hr:wT p l=([],sB,false):=by simp [wT,h4']
  rw [hr]
  try simp only [go_sem,seval,hok,h4]
  apply wG (by simp)
  ·exact Sub.refl _
  ·simp [-qYj,-gD,qY,sB,uD]<;>(first | rfl | exact ⟨rfl,rfl⟩ | exact ⟨rfl,rfl,rfl⟩ | skip)
 have h4':(l.length:Int)≤4000:=by omega
 have hr:wT p l=(bO p m l,cG m l,true):=by simp [wT,h4',hok,hm]
 rw [hr]
 try simp only [go_sem,seval,hok,h4]
 refine wB (ι:=Nat) (fun i=>.mk [(2,.ptr 10 0 0),(5,.ptr 11 0 0),(7,.ptr 12 0 0),(9,.ns 13 0 (bO p m (l.take i)).length),(28,.sl .bw 2 (dR l)),(29,.int .i64 l.length),(30,.int .i64 i)] [(10,2,[yT .bw p]),(11,4,[[.nil,.nil,.nil,.nil]]),(12,4,[qY .own (cG m (l.take i))]),(13,1,wQ (bO p m (l.take i)))] 14) (fun i=>i≤l.length) (fun i=>l.length-i) 0 (by simp) ?_ ?_
 ·refine Sub.trans (Sub.fold1 16 0 12 rfl (by simp [-gD]<;>omega) rfl (by decide) (by decide) rfl) ?_
  simp only [fS,fS2,qA,qC]
  refine Sub.trans (Sub.fold1 16 1 13 rfl (by simp [-gD]<;>omega) rfl (by decide) (by decide) rfl) ?_
  simp only [fS,fS2,qA,qC]
  refine Sub.trans (Sub.fold1 16 2 14 rfl (by simp [-gD]<;>omega) rfl (by decide) (by decide) rfl) ?_
  simp only [fS,fS2,qA,qC]
  refine Sub.trans (Sub.fold1 16 3 15 rfl (by simp [-gD]<;>omega) rfl (by decide) (by decide) rfl) ?_
  simp only [fS,fS2,qA,qC]
  refine Sub.shape [] (fun n=>if n=12 then 16 else if n=13 then 17 else n) (by omega) ?_ ?_ ?_ ?_<;>simp [qN]
  all_goals simp [bO,cG,wQ]
 ·rintro i hi
  simp only [go_sem,seval]
  refine qM (fun hc=>?_) (fun hc=>?_)
  ·simp only [decide_eq_true_eq] at hc
   have hl':i<l.length:=by omega
   have hlt:(bO p m (l.take i)).length≤i:=by have:=lP p m (l.take i); rw [List.length_take] at this; omega
   have hM:=qBy (l.take i) hlc.2.2.2
   have hxi:=hx _ (wZ l i default hl')
   have e1:=qJ6 m l i hl'
   have e2:=qEc p m l i hl'
   simp only [go_sem,seval,qW (i:=i) (by omega),fH l i hl']
   repeat refine K ?_
   refine CA [(0,12)] (qDp p (cG m (l.take i)) (l.getD i default) hp hM hxi) ?_
   try simp only [go_sem,seval]
   cases hd:did p (cG m (l.take i)) (l.getD i default)
   ·rw [hd] at e2
    try simp only [go_sem,seval,hd,qW (i:=i) (by omega)]
    refine qV (i+1) ?_ hl' (by omega)
    rw [e1,e2]
    refine Sub.shape [] id (by omega) ?_ ?_ ?_ ?_<;>simp [qN]
   ·rw [hd] at e2
    try simp only [go_sem,seval,hd,qW (i:=i) (by omega)]
    repeat refine K ?_
    refine qV (i+1) ?_ hl' (by omega)
    rw [e1,e2]
    refine Sub.shape [] (fun n=>if n=13 then 16 else n) (by omega) ?_ ?_ ?_ ?_<;>simp [qN]
    all_goals simp [wQ]
  ·simp only [decide_eq_false_iff_not] at hc
   obtain rfl:i=l.length:=by omega
   have hie:l.take l.length=l:=List.take_length
   simp only [go_sem,seval,hie]
   repeat refine K ?_
   apply wG (by simp)
   ·exact Sub.refl _
   ·simp [-qYj,-gD,qY]<;>(first | rfl | exact ⟨rfl,rfl⟩ | exact ⟨rfl,rfl,rfl⟩ | skip)
theorem eK (p:wU) (l:List uF) (hp:vY p) (hl:l.length<2^40) (hx :∀x∈l,tW x):qU Tryz.prog num 406 [.agg (yT .bw p),.sl .bw 2 (dR l)] [] (.tup [.sl .own 1 (wQ (wT p l).1),.agg (qY .own (wT p l).2.1),.bool (wT p l).2.2]):=by
 refine EN m406 Tryz.func17 ?_
 unfold m406
 simp only [go_sem,seval]
 refine CA [] (qIf p hp) ?_
 try simp only [go_sem,seval]
 cases hok:(launch p).2
 ·have hr:wT p l=([],sB,false):=by simp [wT,hok]
  rw [hr]
  try simp only [go_sem,seval,hok]
  apply wG (by simp)
  ·exact Sub.refl _
  ·simp [-qYj,-gD,qY,sB,uD]<;>(first | rfl | exact ⟨rfl,rfl⟩ | exact ⟨rfl,rfl,rfl⟩ | skip)
 have hlc:=fZ hok
 generalize hm:(launch p).1=m at *
 by_cases h4:(4000:Int)<l.length
 ·have h4' :¬(l.length:Int)≤4000:=by omega
  have hr:wT p l=([],sB,false):=by simp [wT,h4']
  rw [hr]
  try simp only [go_sem,seval,hok,h4]
  apply wG (by simp)
  ·exact Sub.refl _
  ·simp [-qYj,-gD,qY,sB,uD]<;>(first | rfl | exact ⟨rfl,rfl⟩ | exact ⟨rfl,rfl,rfl⟩ | skip)
 have h4':(l.length:Int)≤4000:=by omega
 have hr:wT p l=(bO p m l,cG m l,true):=by simp [wT,h4',hok,hm]
 rw [hr]
 try simp only [go_sem,seval,hok,h4]
 obtain ⟨hpo,hlie,hcodes,hmok⟩:=hlc
 have hM0:=(jJ m).1 hmok
 have hc0:=hM0.cores
 have hn4:=hM0.n4
 have w1:IntKind.i64.wrap ((m.cores.length:Int)-1)=m.cores.length-1:=wM (by omega) (by omega)
 refine wB (ι:=Nat) (fun i=>.mk [(1,.sl .bw 2 (dR l)),(2,.ptr 10 0 0),(5,.ptr 11 0 0),(7,.ns 12 0 (bO p m (l.take i)).length),(8,.ptr 13 0 0),(10,.int .i64 i)] [(10,2,[yT .bw p]),(11,4,[[.nil,.nil,.nil,.nil]]),(12,1,wQ (bO p m (l.take i))),(13,4,[qY .own (cG m (l.take i))])] 14) (fun i=>i≤l.length) (fun i=>l.length-i) 0 (by simp) ?_ ?_
 ·refine Sub.trans (Sub.fold1 17 0 13 rfl (by simp [-gD]<;>omega) rfl (by decide) (by decide) rfl) ?_
  simp only [fS,fS2,qA,qC]
  refine Sub.trans (Sub.fold1 17 1 14 rfl (by simp [-gD]<;>omega) rfl (by decide) (by decide) rfl) ?_
  simp only [fS,fS2,qA,qC]
  refine Sub.trans (Sub.fold1 17 2 15 rfl (by simp [-gD]<;>omega) rfl (by decide) (by decide) rfl) ?_
  simp only [fS,fS2,qA,qC]
  refine Sub.trans (Sub.fold1 17 3 16 rfl (by simp [-gD]<;>omega) rfl (by decide) (by decide) rfl) ?_
  simp only [fS,fS2,qA,qC]
  refine Sub.shape [] (fun n=>if n=13 then 17 else n) (by omega) ?_ ?_ ?_ ?_<;>simp [qN]
  all_goals simp [bO,cG,wQ]
 ·rintro i hi
  simp only [go_sem,seval]
  refine qM (fun hc=>?_) (fun hc=>?_)
  ·simp only [decide_eq_true_eq] at hc
   have hl':i<l.length:=by omega
   have hlt:(bO p m (l.take i)).length≤i:=by have:=lP p m (l.take i); rw [List.length_take] at this; omega
   have hMk:=qBy (l.take i) hmok
   have hxi:=hx _ (wZ l i default hl')
   have e1:=qJ6 m l i hl'
   have e2:=qEc p m l i hl'
   have hlen:=qMo m (l.take i)
   generalize cG m (l.take i)=M at *
   generalize bO p m (l.take i)=cds at *
   have hM:=(jJ M).1 hMk
   have hpg:=fH l i hl'
   generalize l.getD i default=x at *
   have w2:IntKind.i64.wrap ((M.cores.length:Int)-1)=M.cores.length-1:=wM (by omega) (by omega)
   have hlenc:=hlen.2
   clear hlen hm
   simp only [go_sem,seval,hpg,w2]
   repeat refine K ?_
   refine CA [] (yM x.who 0 (M.cores.length-1)) ?_
   try simp only [go_sem,seval]
   cases hw:qO x.who 0 (M.cores.length-1)
   ·have hn:yF M x=(M,2):=qGp hw
    have hd:did p M x=false:=by
     unfold did
     rw [hn]
     rfl
    rw [hn] at e1
    rw [hd] at e2
    try simp only [go_sem,seval,hw,qW (i:=i) (by omega)]
    refine qV (i+1) ?_ hl' (by omega)
    rw [e1,e2]
    refine Sub.trans (Sub.fold1 13 1 15 rfl (by simp [-gD]<;>omega) rfl (by decide) (by decide) rfl) ?_
    simp only [fS,fS2,qA,qC]
    refine Sub.shape [] id (by omega) ?_ ?_ ?_ ?_<;>simp [qN]
    all_goals simp
   rw [qP] at hw
   obtain ⟨j,hj⟩:=Int.eq_ofNat_of_zero_le hw.1
   obtain ⟨who,late⟩:=x
   simp only at hj hw
   subst hj
   have hjl:j<M.cores.length:=by omega
   have hw':qO (j:Int) 0 (M.cores.length-1)=true:=by rw [qP]; omega
   have hcg:=jZ .own M.cores j hjl
   have hk:M.cores.getD j default=qJ M j:=rfl
   rw [hk] at hcg
   by_cases hst:(qJ M j).st=0
   case neg =>
    have hn:yF M ⟨j,late⟩=(M,3):=eN rfl rfl hjl (.inl (.inl hst))
    have hd:did p M ⟨j,late⟩=false:=by
     unfold did
     rw [hn]
     rfl
    rw [hn] at e1
    rw [hd] at e2
    try simp only [go_sem,seval,hw',hst,hpg,hcg,qW (i:=i) (by omega)]
    repeat refine K ?_
    refine qV (i+1) ?_ hl' (by omega)
    rw [e1,e2]
    refine Sub.trans (Sub.fold1 13 1 15 rfl (by simp [-gD]<;>omega) rfl (by decide) (by decide) rfl) ?_
    simp only [fS,fS2,qA,qC]
    refine Sub.shape [] id (by omega) ?_ ?_ ?_ ?_<;>simp [qN]
    all_goals simp
   try simp only [go_sem,seval,hw',hst,hpg,hcg,qW (i:=i) (by omega)]
   repeat refine K ?_
   have hM':=(jJ _).1 (lY ⟨j,late⟩ hMk)
   have hlen':=qDi M ⟨j,late⟩
   have hcM:M.codes=p.bods.map (comp p.caps):=by rw [hlenc,hcodes]
   obtain ⟨hcs,hr7,hr8,hjb⟩:=qLe hpo hlie hcM hM hM' hjl hlen'.1
   have hdd:did p M ⟨j,late⟩=(decide ((yF M ⟨j,late⟩).2=0)&&zP p (wD M j) (qJ (yF M ⟨j,late⟩).1 j).regs j (qJ M j).at_):=by simp [did]
   rw [hcs] at hdd
   by_cases hcd:(yF M ⟨j,late⟩).2=0
   ·have hA:=qRr M j late hM hjl hst hcd hxi
    have hat0:=(hM.core j hjl).at0
    have hat1:=(hM.core j hjl).at1
    have hcl':j<(yF M ⟨j,late⟩).1.codes.length:=by rw [hlen'.2]; have:=hM.cores; omega
    have hcog:=aO .own (yF M ⟨j,late⟩).1.codes j hcl'
    have hsg:=aK (M.codes.getD j []) (qJ M j).at_.toNat (by omega)
    have hse:(M.codes.getD j []).getD (qJ M j).at_.toNat default=wD M j:=rfl
    rw [hse] at hsg
    have hjl':j<(yF M ⟨j,late⟩).1.cores.length:=by omega
    have hcod:=hlen'.2
    generalize yF M ⟨j,late⟩=w at *
    rw [←hcod] at hsg hat1
    have hcself:(codes .own w.1.codes).set j [.sl .own 5 (jB (w.1.codes.getD j []))]=codes .own w.1.codes:=by rw [←hcog,wP _ _ _ (by rw [gG]; exact hcl')]
    have hL:=qAj p (wD M j) w.1 j (qJ M j).at_ hp hpo hjl' hjb hr8 hr7
    refine CA [(0,16),(1,15),(2,17),(3,18)] (hA) ?_
    try simp only [go_sem,seval]
    repeat refine K ?_
    try simp only [go_sem,seval,hcd,hcog,hsg]
    repeat refine K ?_
    have hnb :∀x∈qOh w.1 j,(∀r,x.2.1=some r→okR (fun k =>∃y∈qOh w.1 j,y.1=k∧y.2.1≠none) r.2)∧(∀r,x.2.2=some r→okR (fun k =>∃y∈qOh w.1 j,y.1=k∧y.2.2≠none) r.2):=by
     have hs:okR (fun k =>∃y∈qOh w.1 j,y.1=k∧y.2.1≠none) ((codes .own w.1.codes).set j [.ns 4 0 (w.1.codes.getD j []).length]):=qK2 _ _ _ (by simp [okL,okV])
     simp [-List.getD_eq_getElem?_getD] at hs⊢
     exact hs
    refine DAN [(0,19),(1,20),(2,21),(3,22),(4,24)] hL (hnb:=hnb) ?_
    simp only [go_sem,seval]
    cases hcb:kH p (wD M j) (qJ w.1 j).regs j (qJ M j).at_
    ·rw [hcb,Bool.and_false] at hdd
     rw [hdd] at e2
     try simp only [go_sem,seval,hcb,qW (i:=i) (by omega)]
     refine qV (i+1) ?_ hl' (by omega)
     rw [e1,e2]
     refine FA 19 0 24 ?_
     simp only [fS,fS2,fS2,qA,qC,hcself]
     refine F1 13 0 19 ?_
     simp only [fS,fS2,fS2,qA,qC]
     refine F1 13 1 20 ?_
     simp only [fS,fS2,fS2,qA,qC]
     refine F1 13 2 21 ?_
     simp only [fS,fS2,fS2,qA,qC]
     refine F1 13 3 22 ?_
     simp only [fS,fS2,fS2,qA,qC]
     refine Sub.shape [] id (by omega) ?_ ?_ ?_ ?_<;>simp [qN]
     all_goals simp
    ·rw [hcb,hcd] at hdd
     rw [hdd] at e2
     try simp only [go_sem,seval,hcb,qW (i:=i) (by omega)]
     repeat refine K ?_
     refine qV (i+1) ?_ hl' (by omega)
     rw [e1,e2]
     refine FA 19 0 24 ?_
     simp only [fS,fS2,fS2,qA,qC,hcself]
     refine F1 13 0 19 ?_
     simp only [fS,fS2,fS2,qA,qC]
     refine F1 13 1 20 ?_
     simp only [fS,fS2,fS2,qA,qC]
     refine F1 13 2 21 ?_
     simp only [fS,fS2,fS2,qA,qC]
     refine F1 13 3 22 ?_
     simp only [fS,fS2,fS2,qA,qC]
     refine Sub.shape [] (fun n=>if n=12 then 26 else n) (by omega) ?_ ?_ ?_ ?_<;>simp [qN]
     all_goals simp [wQ]
   ·have hB:=qOm M j late hM hjl hst hcd hxi
    have hn:=qTa hcd
    have h3:=qMm hjl hcd
    have hd:did p M ⟨j,late⟩=false:=by
     rw [hdd]
     simp [hcd]
    rw [hn] at e1
    rw [hd] at e2
    refine CA [(0,16),(1,15),(2,17),(3,18)] (hB) ?_
    try simp only [go_sem,seval]
    try simp only [go_sem,seval,qW (i:=i) (by omega)]
    refine qV (i+1) ?_ hl' (by omega)
    rw [e1,e2]
    refine Sub.trans (Sub.fold1 13 0 16 rfl (by simp [-gD]<;>omega) rfl (by decide) (by decide) rfl) ?_
    simp only [fS,fS2,qA,qC]
    refine Sub.trans (Sub.fold1 13 1 15 rfl (by simp [-gD]<;>omega) rfl (by decide) (by decide) rfl) ?_
    simp only [fS,fS2,qA,qC]
    refine Sub.trans (Sub.fold1 13 2 17 rfl (by simp [-gD]<;>omega) rfl (by decide) (by decide) rfl) ?_
    simp only [fS,fS2,qA,qC]
    refine Sub.trans (Sub.fold1 13 3 18 rfl (by simp [-gD]<;>omega) rfl (by decide) (by decide) rfl) ?_
    simp only [fS,fS2,qA,qC]
    refine Sub.shape [] id (by omega) ?_ ?_ ?_ ?_<;>simp [qN]
    all_goals simp
  ·simp only [decide_eq_false_iff_not] at hc
   obtain rfl:i=l.length:=by omega
   have hie:l.take l.length=l:=List.take_length
   simp only [go_sem,seval,hie]
   repeat refine K ?_
   apply wG (by simp)
   ·exact Sub.refl _
   ·simp [-qYj,-gD,qY]<;>(first | rfl | exact ⟨rfl,rfl⟩ | exact ⟨rfl,rfl,rfl⟩ | skip)
end Go.Sep
