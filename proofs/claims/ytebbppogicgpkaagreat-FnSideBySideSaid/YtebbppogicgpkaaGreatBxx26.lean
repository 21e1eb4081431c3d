/- Contracts of functions. -/
import Derived.Test.YtebbppogicgpkaaGreatBxx23
import Derived.Test.YtebbppogicgpkaaGreatBxx25
namespace Go.Sep
set_option maxHeartbeats 16000000
open Go.Proofs
set_option linter.unusedSimpArgs false
set_option linter.unusedVariables false
set_option maxRecDepth 100000
open Nat renaming reduceAdd → qA, reduceMul → qB, reduceEqDiff → qC, reduceBEq → qD
open Int renaming reduceToNat → qE, reduceEq → qF, reduceLT → qG, reduceLE → qH
open List renaming getD_eq_getElem?_getD → gD
def m234:MFn:=⟨48,[.t 10],kr [xb 5 0,xb 8 3,xb 9 4,xF 10] (.seq (kr [xa 13 0 8,xl 14 13,bI 15 .eql 14 8] (.cond 15 (.seq (.dreg (.take 0 (xa 16 1 9) (.take 1 (xl 17 16) (.take 2 (xv 18 1) (.take 3 (xD 19 4 17 18) (.take 4 (xa 20 1 19) (.take 5 (xl 21 20) (.only 6 [] (xa 22 1 8) (.only 7 [] (xl 23 22) (.only 8 [5,4,3,1,2,0] (xD 24 1 21 23) (.only 9 [8,5,4,3,1,2,0] (xl 25 24) (.only 10 [9,8,5,4,3,1,2,0] (bI 26 .eql 25 0) (.only 11 [0,1,2,3,4,5] (xv 10 26) (.done)))))))))))))) (.ret)) (.skip))) (kr [xm 28 2 5,xv 29 1,xv 30 2,xc3 31 224 (.t 28) (.t 29) (.t 30),xv 27 31,xX 32 27 0,xX 33 27 1,xv 11 32,xv 12 33] (kR [xv 34 11,bI 35 .geq 34 0,xv 36 35,ya 37 1 5 36,yl 38 1 37 36,yv 39 1 36,xg 40 (.iad 1 (.t 38) (.t 39)) 36 true,yl 41 1 40 36,yv 42 11 36,xg 43 (.iad 5 (.t 41) (.t 42)) 36 true,xg 44 (.load 5 true (.t 43)) 36 true,xg 45 (.call 285 [false] [.t 44]) 36 true,yI 46 .eql 45 1 36,xP 47 36 46,xv 10 47])))⟩
def m406:MFn:=⟨98,[.t 4,.cell 5 4 true,.t 6],kr [xb 2 0,xo 4 (.mv (.c (.nil))),xo 5 (.alloc [.nil,.nil,.nil,.nil]),xF 6] (kr [xo 15 (.mkSl [xz] 0 []),xv 7 15] (kr [xm 17 2 2,xc1 18 391 (.t 17),xv 16 18,xX 19 16 0,xX 20 16 1,xo 8 (.alloc [.nil,.nil,.nil,.nil]),xS 4 8 19,xv 9 20] (.seq (kr [xv 21 9,xN 22 21,xv 23 22,zv 24 1 23,ze 25 24 23,zI 26 .gtr 25 4000 23,xQ 27 23 26] (kF 27 [xo 28 (.mkSl [xz] 0 []),xo 29 (.build [.nil,.nil,.nil,.nil] []),xv 4 28,xS 4 5 29,xF 6])) (.seq (kr [xI 10 0] (.blk 0 (.loop (.seq (kr [xv 30 10,xv 31 1,xe 32 31,bT 33 .lss 30 32] (kX 33 0)) (.seq (.blk 1 (kr [xv 36 1,xv 37 10,xD 38 2 36 37,xm 39 2 38,xo 11 (.alloc [xz,xz]),xS 2 11 39] (.seq (kr [xa 40 0 11,xl 41 40,xa 42 1 8,xl 43 42,xe 44 43,bI 45 .sub 44 1,xc3 46 64 (.t 41) (xi 0) (.t 45),xN 47 46,xv 48 47,za 49 1 8 48,zl 50 1 49 48,za 51 0 11 48,zl 52 1 51 48,xg 53 (.iad 4 (.t 50) (.t 52)) 48 false,za 54 3 53 48,zl 55 1 54 48,zI 56 .neq 55 0 48,xQ 57 48 56] (.cond 57 (.exit 1) (.skip))) (kr [xa 58 1 8,xl 59 58,xa 60 0 11,xl 61 60,xD 62 4 59 61,xa 63 0 62,xl 64 63,xv 12 64] (kr [xm 66 4 8,xm 67 2 11,xo 68 (.call 357 [true,false] [.t 66,.t 67]),xv 65 68,xX 69 65 0,xX 70 65 1,xo 13 (.alloc [.nil,.nil,.nil,.nil]),xS 4 13 69,xv 14 70] (kr [xm 71 4 13,xS 4 8 71] (.seq (.dreg (.only 0 [] (xv 72 14) (.only 1 [] (bI 73 .eql 72 0) (.only 2 [] (xv 74 73) (.take 3 (xg 75 (.load 2 true (.t 2)) 74 true) (.take 4 (ya 76 0 11 74) (.take 5 (yl 77 1 76 74) (.take 6 (yv 78 12 74) (.take 7 (ya 79 0 8 74) (.take 8 (yl 80 1 79 74) (.take 9 (ya 81 0 11 74) (.take 10 (yl 82 1 81 74) (.take 11 (xg 83 (.iad 1 (.t 80) (.t 82)) 74 true) (.take 12 (yl 84 1 83 74) (.take 13 (yv 85 12 74) (.take 14 (xg 86 (.iad 5 (.t 84) (.t 85)) 74 true) (.take 15 (xg 87 (.load 5 true (.t 86)) 74 true) (.only 16 [] (xg 88 (.load 4 true (.t 8)) 74 true) (.only 17 [3,5,6,15,4,14,12,13,11,8,10,7,9] (xg 89 (.call 234 [false,false,false,false,true] [.t 75,.t 77,.t 78,.t 87,.t 88]) 74 true) (.only 18 [17,3,5,6,15,4,14,12,13,11,8,10,7,9] (xP 90 74 89) (.done))))))))))))))))))))) (.cond 90 (xr [xv 91 7,xa 92 0 11,xl 93 92,xo 94 (.mkSl [xz] 1 [(0,.t 93)]),xA 95 1 8 91 94,xv 7 95]) (.skip))))))))) (xr [xv 34 10,bI 35 .add 34 1,xv 10 35])))))) (.seq (.dreg (.take 0 (xv 96 7) (.take 1 (xm 97 4 8) (.only 2 [0] (xv 4 96) (.only 3 [0,1] (xS 4 5 97) (.only 4 [0,1] (xT 6) (.done))))))) (.ret))))))⟩
theorem lB {p:wR} (h:(launch p).2=true):jQ p=true∧bJ p.caps=true∧(launch p).1.codes=p.bods.map (comp p.caps)∧yY (launch p).1=true:=by
 unfold launch at h⊢
 cases hc:(bU p).2
 ·rw [hc] at h
  exact absurd h (by simp)
 rw [hc] at h
 simp only [if_true] at h⊢
 have hcc:jQ p=true∧bJ p.caps=true∧(bU p).1=p.bods.map (comp p.caps):=by
  unfold bU at hc⊢
  split
  ·rename_i hh
   simp only [Bool.and_eq_true] at hh
   exact ⟨hh.1.1,hh.1.2,rfl⟩
  ·rename_i hh
   rw [if_neg hh] at hc
   exact absurd hc (by simp)
 refine ⟨hcc.1,hcc.2.1,?_,?_⟩
 ·unfold gY at h⊢
  split
  ·exact hcc.2.2
  ·rename_i hh
   rw [if_neg hh] at h
   exact absurd h (by simp)
 ·unfold gY at h⊢
  split
  ·rename_i hh
   exact hh
  ·rename_i hh
   rw [if_neg hh] at h
   exact absurd h (by simp)
def uI (p:wR) (l:List dK):List Int×qO×Bool :=
 if (launch p).2&&decide ((l.length:Int)≤4000) then (zC p (launch p).1 l,kZ (launch p).1 l,true) else ([],qBv,false)
theorem qJ5 (p:wR) (l:List dK):(uI p l).1.length≤4000∧nV (uI p l).2.1≤4000000:=by
 unfold uI
 split
 ·rename_i h
  simp only [Bool.and_eq_true,decide_eq_true_eq] at h
  have:=oT p (launch p).1 l
  exact ⟨by simp only; omega,sK (qF3 l (lB h.1).2.2.2)⟩
 ·exact ⟨by simp,by decide⟩
theorem qLu {p:wR} {M M':qO} {j:Nat} (h1:jQ p=true) (h2:bJ p.caps=true) (h3:M.codes=p.bods.map (comp p.caps)) (hM:MOk M) (hM':MOk M') (hj:j<M.cores.length) (hc':M'.cores.length=M.cores.length) :
  cU p (qX M j) (qJ M' j).regs j (qJ M j).at_=kI p (qX M j) (qJ M' j).regs j (qJ M j).at_∧qL (qX M j).r 0 7=true∧(qJ M' j).regs.length=8∧j<p.bods.length:=by
 have hk:=hM.core j hj
 have hr:=(hM'.core j (by omega)).regs
 have hl:M.codes.length=p.bods.length:=by rw [h3,List.length_map]
 have hjb:j<p.bods.length:=by have:=hM.cores; omega
 have hcg:M.codes.getD j []=comp p.caps (p.bods.getD j []):=by
  rw [h3]
  simp [List.getD_eq_getElem?_getD,hjb]
 have hst:qX M j=(comp p.caps (p.bods.getD j [])).getD (qJ M j).at_.toNat default:=by
  unfold qX
  rw [hcg]
 have h0:=hk.at0
 have h1':=hk.at1
 rw [hcg] at h1'
 have hr7:qL (qX M j).r 0 7=true:=by
  obtain ⟨a,b,_⟩:=dS (cB hM hj)
  rw [qK]
  omega
 refine ⟨?_,hr7,hr,hjb⟩
 rw [hst] at hr7⊢
 exact qPy h1 h2 hjb h0 h1' hr hr7
theorem qJl (f:Nat→Nat) (l:List aT):cY f (jL l)=jL l:=iP f _ ((zG l).2 trivial)
theorem qSg {A:Nat→Prop} (l:List aT):okR A (jL l)↔True:=by simp [fW _ ((zG l).2 trivial)]
theorem qJa (f:Nat→Nat) (l:List yC):cY f (yO l)=yO l:=iP f _ ((fR l).2 trivial)
theorem qRt {A:Nat→Prop} (l:List yC):okR A (yO l)↔True:=by simp [fW _ ((fR l).2 trivial)]
attribute [go_sem] qJl qJa
attribute [simp] qJl qJa qSg qRt
@[simp] def qPa (m:qO) (j:Nat):FP:=[(0,some (1,(codes .own m.codes).set j [.ns 4 0 (m.codes.getD j []).length]),some (1,(codes .own m.codes).set j [.ns 4 0 (m.codes.getD j []).length])),(1,some (4,cores .own m.cores),some (4,cores .own m.cores)),(2,some (1,jO .own m.mem.cells),some (1,jO .own m.mem.cells)),(3,some (2,jL m.tr),some (2,jL m.tr)),(4,some (5,yO (m.codes.getD j [])),some (5,yO (m.codes.getD j [])))]
attribute [go_sem] qPa
theorem qWb (m:qO) (j:Nat):HB (vR (qPa m j)) 10:=by
 refine aF _ _ _ _ (aF _ _ _ _ (aF _ _ _ _ (aF _ _ _ _ (aF _ _ _ _ ((qDk _).2 trivial) (by decide) ?_) (by decide) ?_) (by decide) ?_) (by decide) ?_) (by decide) (qHu ?_ _ ?_)<;>simp [vH,vN,bnd]
theorem qAm (p:wR) (s:yC) (m:qO) (j:Nat) (at_:Int) (hp:dB p) (hpo:jQ p=true) (hj:j<m.cores.length) (hb:j<p.bods.length) (hr:(qJ m j).regs.length=8) (hs:qL s.r 0 7=true) :
  qU Tryz.prog num 234 [.agg (jS .bw p),.int .i64 j,.int .i64 at_,.agg (bP s),mM m] (qPa m j) (.bool (kI p s (qJ m j).regs j at_)):=by
 refine EH m234 Tryz.func71 (hh:=qWb m j) ?_
 unfold m234
 have hcg:=uY .own m.cores j hj
 have hk:m.cores.getD j default=qJ m j:=rfl
 rw [hk] at hcg
 have hs':=qK.1 hs
 have hrl:s.r.toNat<(qJ m j).regs.length:=by omega
 by_cases h8:s.op=8
 ·have hs2:(cores .own m.cores).set j [.int .i64 (qJ m j).at_,.sl .own 1 (wT (qJ m j).regs),.sl .own 1 (wT (qJ m j).view),.int .i64 (qJ m j).st]=cores .own m.cores:=by rw [←hcg,wS _ _ _ (by rw [vA]; exact hj)]
  simp only [go_sem,seval,h8,hcg,qI (qJ m j).regs s.r.toNat hrl]
  repeat refine K ?_
  apply vE
  ·refine FA 1 1 13 ?_
   exact Sub.refl _
  ·simp [-List.drop_one,-gD,hs2,kI,h8,qW,put,del]<;>(first | rfl | exact ⟨rfl,rfl⟩ | exact ⟨rfl,rfl,rfl⟩ | skip)
 have hpl:jY p j at_=jU (p.bods.getD j []) 0 0 at_:=by
  unfold jY
  have hw:qL (j:Int) 0 ((p.bods.length:Int)-1)=true:=by rw [qK]; omega
  rw [hpo,hw]
  rfl
 have hlt:=qG6 (p.bods.getD j []) 0 0 at_
 rw [←hpl] at hlt
 have hcs:kI p s (qJ m j).regs j at_=(decide (0≤(jY p j at_).1)&&decide (wD ((p.bods.getD j []).getD (jY p j at_).1.toNat default)=1)):=by
  simp [kI,h8]
 rw [hcs]
 clear hcs hpl
 simp only [go_sem,seval,h8]
 refine CA [] (lS p j at_ hp) ?_
 try simp only [go_sem,seval]
 generalize (jY p j at_).1=pl at *
 by_cases h0:0≤pl
 case neg =>
  try simp only [go_sem,seval,h0]
  apply vE
  ·exact Sub.refl _
  ·simp [-List.drop_one,-gD,h0]<;>(first | rfl | exact ⟨rfl,rfl⟩ | exact ⟨rfl,rfl,rfl⟩ | skip)
 obtain ⟨i,rfl⟩:=Int.eq_ofNat_of_zero_le h0
 have hi:i<(p.bods.getD j []).length:=by omega
 have hbg:=wN .bw p.bods j hb
 have hig:=xC (p.bods.getD j []) i hi
 generalize p.bods.getD j []=b at *
 simp only [Int.toNat_natCast]
 try simp only [go_sem,seval,h0,hbg,hig]
 repeat refine K ?_
 refine CA [] (zZ (b.getD i default)) ?_
 try simp only [go_sem,seval]
 apply vE
 ·exact Sub.refl _
 ·simp [-List.drop_one,-gD,h0]<;>(first | rfl | exact ⟨rfl,rfl⟩ | exact ⟨rfl,rfl,rfl⟩ | skip)
theorem qMk (p:wR) (m:qO) (l:List dK) (i:Nat) (h:i<l.length):zC p m (l.take (i+1))=zC p m (l.take i)++(if did p (kZ m (l.take i)) (l.getD i default) then [(l.getD i default).who] else []):=by
 rw [uH l default i h,qE0]
theorem qFk (p:wR) (l:List dK) (hp:dB p) (hl:l.length<2^40) (hx :∀x∈l,qU7 x):qU Tryz.prog num 406 [.agg (jS .bw p),.sl .bw 2 (cD l)] [] (.tup [.sl .own 1 (wT (uI p l).1),.agg (wG .own (uI p l).2.1),.bool (uI p l).2.2]):=by
 refine EN m406 Tryz.func17 ?_
 unfold m406
 simp only [go_sem,seval]
 refine CA [] (qIf p hp) ?_
 try simp only [go_sem,seval]
 cases hok:(launch p).2
 ·have hr:uI p l=([],qBv,false):=by simp [uI,hok]
  rw [hr]
  try simp only [go_sem,seval,hok]
  apply wA (by simp)
  ·exact Sub.refl _
  ·simp [-List.drop_one,-gD,wG,qBv,bF]<;>(first | rfl | exact ⟨rfl,rfl⟩ | exact ⟨rfl,rfl,rfl⟩ | skip)
 have hlc:=lB hok
 generalize hm:(launch p).1=m at *
 by_cases h4:(4000:Int)<l.length
 ·have h4' :¬(l.length:Int)≤4000:=by omega
  have hr:uI p l=([],qBv,false):=by simp [uI,h4']
  rw [hr]
  try simp only [go_sem,seval,hok,h4]
  apply wA (by simp)
  ·exact Sub.refl _
  ·simp [-List.drop_one,-gD,wG,qBv,bF]<;>(first | rfl | exact ⟨rfl,rfl⟩ | exact ⟨rfl,rfl,rfl⟩ | skip)
 have h4':(l.length:Int)≤4000:=by omega
 have hr:uI p l=(zC p m l,kZ m l,true):=by simp [uI,h4',hok,hm]
 rw [hr]
 try simp only [go_sem,seval,hok,h4]
 obtain ⟨hpo,hlie,hcodes,hmok⟩:=hlc
 have hM0:=(jD m).1 hmok
 have hc0:=hM0.cores
 have hn4:=hM0.n4
 have w1:IntKind.i64.wrap ((m.cores.length:Int)-1)=m.cores.length-1:=wF (by omega) (by omega)
 refine wB (ι:=Nat) (fun i=>.mk [(1,.sl .bw 2 (cD l)),(2,.ptr 10 0 0),(5,.ptr 11 0 0),(7,.ns 12 0 (zC p m (l.take i)).length),(8,.ptr 13 0 0),(10,.int .i64 i)] [(10,2,[jS .bw p]),(11,4,[[.nil,.nil,.nil,.nil]]),(12,1,wT (zC p m (l.take i))),(13,4,[wG .own (kZ m (l.take i))])] 14) (fun i=>i≤l.length) (fun i=>l.length-i) 0 (by simp) ?_ ?_
 ·refine Sub.trans (Sub.fold1 17 0 13 rfl (by simp [-gD]<;>omega) rfl (by decide) (by decide) rfl) ?_
  simp only [fS,fS2,qA,qC]
  refine Sub.trans (Sub.fold1 17 1 14 rfl (by simp [-gD]<;>omega) rfl (by decide) (by decide) rfl) ?_
  simp only [fS,fS2,qA,qC]
  refine Sub.trans (Sub.fold1 17 2 15 rfl (by simp [-gD]<;>omega) rfl (by decide) (by decide) rfl) ?_
  simp only [fS,fS2,qA,qC]
  refine Sub.trans (Sub.fold1 17 3 16 rfl (by simp [-gD]<;>omega) rfl (by decide) (by decide) rfl) ?_
  simp only [fS,fS2,qA,qC]
  refine Sub.shape [] (fun n=>if n=13 then 17 else n) (by omega) ?_ ?_ ?_ ?_<;>simp [qM]
  all_goals simp [zC,kZ,wT]
 ·rintro i hi
  simp only [go_sem,seval]
  refine qP (fun hc=>?_) (fun hc=>?_)
  ·simp only [decide_eq_true_eq] at hc
   have hl':i<l.length:=by omega
   have hlt:(zC p m (l.take i)).length≤i:=by have:=oT p m (l.take i); rw [List.length_take] at this; omega
   have hMk:=qF3 (l.take i) hmok
   have hxi:=hx _ (wY l i default hl')
   have e1:=qRr m l i hl'
   have e2:=qMk p m l i hl'
   have hlen:=qN9 m (l.take i)
   generalize kZ m (l.take i)=M at *
   generalize zC p m (l.take i)=cds at *
   have hM:=(jD M).1 hMk
   have hpg:=qSa l i hl'
   generalize l.getD i default=x at *
   have w2:IntKind.i64.wrap ((M.cores.length:Int)-1)=M.cores.length-1:=wF (by omega) (by omega)
   have hlenc:=hlen.2
   clear hlen hm
   simp only [go_sem,seval,hpg,w2]
   repeat refine K ?_
   refine CA [] (yD x.who 0 (M.cores.length-1)) ?_
   try simp only [go_sem,seval]
   cases hw:qL x.who 0 (M.cores.length-1)
   ·have hn:yJ M x=(M,2):=qP8 hw
    have hd:did p M x=false:=by
     unfold did
     rw [hn]
     rfl
    rw [hn] at e1
    rw [hd] at e2
    try simp only [go_sem,seval,hw,qS (i:=i) (by omega)]
    refine qT (i+1) ?_ hl' (by omega)
    rw [e1,e2]
    refine Sub.trans (Sub.fold1 13 1 15 rfl (by simp [-gD]<;>omega) rfl (by decide) (by decide) rfl) ?_
    simp only [fS,fS2,qA,qC]
    refine Sub.shape [] id (by omega) ?_ ?_ ?_ ?_<;>simp [qM]
    all_goals simp
   rw [qK] at hw
   obtain ⟨j,hj⟩:=Int.eq_ofNat_of_zero_le hw.1
   obtain ⟨who,late⟩:=x
   simp only at hj hw
   subst hj
   have hjl:j<M.cores.length:=by omega
   have hw':qL (j:Int) 0 (M.cores.length-1)=true:=by rw [qK]; omega
   have hcg:=uY .own M.cores j hjl
   have hk:M.cores.getD j default=qJ M j:=rfl
   rw [hk] at hcg
   by_cases hst:(qJ M j).st=0
   case neg =>
    have hn:yJ M ⟨j,late⟩=(M,3):=qAt rfl rfl hjl (.inl (.inl hst))
    have hd:did p M ⟨j,late⟩=false:=by
     unfold did
     rw [hn]
     rfl
    rw [hn] at e1
    rw [hd] at e2
    try simp only [go_sem,seval,hw',hst,hpg,hcg,qS (i:=i) (by omega)]
    repeat refine K ?_
    refine qT (i+1) ?_ hl' (by omega)
    rw [e1,e2]
    refine Sub.trans (Sub.fold1 13 1 15 rfl (by simp [-gD]<;>omega) rfl (by decide) (by decide) rfl) ?_
    simp only [fS,fS2,qA,qC]
    refine Sub.shape [] id (by omega) ?_ ?_ ?_ ?_<;>simp [qM]
    all_goals simp
   try simp only [go_sem,seval,hw',hst,hpg,hcg,qS (i:=i) (by omega)]
   repeat refine K ?_
   have hM':=(jD _).1 (lX ⟨j,late⟩ hMk)
   have hlen':=qJp M ⟨j,late⟩
   have hcM:M.codes=p.bods.map (comp p.caps):=by rw [hlenc,hcodes]
   obtain ⟨hcs,hr7,hr8,hjb⟩:=qLu hpo hlie hcM hM hM' hjl hlen'.1
   have hdd:did p M ⟨j,late⟩=(decide ((yJ M ⟨j,late⟩).2=0)&&cU p (qX M j) (qJ (yJ M ⟨j,late⟩).1 j).regs j (qJ M j).at_):=by simp [did]
   rw [hcs] at hdd
   by_cases hcd:(yJ M ⟨j,late⟩).2=0
   ·have hA:=qSv M j late hM hjl hst hcd hxi
    have hat0:=(hM.core j hjl).at0
    have hat1:=(hM.core j hjl).at1
    have hcl':j<(yJ M ⟨j,late⟩).1.codes.length:=by rw [hlen'.2]; have:=hM.cores; omega
    have hcog:=fB .own (yJ M ⟨j,late⟩).1.codes j hcl'
    have hsg:=cV (M.codes.getD j []) (qJ M j).at_.toNat (by omega)
    have hse:(M.codes.getD j []).getD (qJ M j).at_.toNat default=qX M j:=rfl
    rw [hse] at hsg
    have hjl':j<(yJ M ⟨j,late⟩).1.cores.length:=by omega
    have hcod:=hlen'.2
    generalize yJ M ⟨j,late⟩=w at *
    rw [←hcod] at hsg hat1
    have hcself:(codes .own w.1.codes).set j [.sl .own 5 (yO (w.1.codes.getD j []))]=codes .own w.1.codes:=by rw [←hcog,wS _ _ _ (by rw [xV]; exact hcl')]
    have hL:=qAm p (qX M j) w.1 j (qJ M j).at_ hp hpo hjl' hjb hr8 hr7
    refine CA [(0,16),(1,15),(2,17),(3,18)] (hA) ?_
    try simp only [go_sem,seval]
    repeat refine K ?_
    try simp only [go_sem,seval,hcd,hcog,hsg]
    repeat refine K ?_
    have hnb :∀x∈qPa w.1 j,(∀r,x.2.1=some r→okR (fun k =>∃y∈qPa w.1 j,y.1=k∧y.2.1≠none) r.2)∧(∀r,x.2.2=some r→okR (fun k =>∃y∈qPa w.1 j,y.1=k∧y.2.2≠none) r.2):=by
     have hs:okR (fun k =>∃y∈qPa w.1 j,y.1=k∧y.2.1≠none) ((codes .own w.1.codes).set j [.ns 4 0 (w.1.codes.getD j []).length]):=qK9 _ _ _ (by simp [okL,okV])
     simp [-List.getD_eq_getElem?_getD] at hs⊢
     exact hs
    refine DAN [(0,19),(1,20),(2,21),(3,22),(4,24)] hL (hnb:=hnb) ?_
    simp only [go_sem,seval]
    cases hcb:kI p (qX M j) (qJ w.1 j).regs j (qJ M j).at_
    ·rw [hcb,Bool.and_false] at hdd
     rw [hdd] at e2
     try simp only [go_sem,seval,hcb,qS (i:=i) (by omega)]
     refine qT (i+1) ?_ hl' (by omega)
     rw [e1,e2]
     refine FA 19 0 24 ?_
     simp only [fS,fS2,fS2,qA,qC,hcself]
     refine F1 13 0 19 ?_
     simp only [fS,fS2,fS2,qA,qC]
     refine F1 13 1 20 ?_
     simp only [fS,fS2,fS2,qA,qC]
     refine F1 13 2 21 ?_
     simp only [fS,fS2,fS2,qA,qC]
     refine F1 13 3 22 ?_
     simp only [fS,fS2,fS2,qA,qC]
     refine Sub.shape [] id (by omega) ?_ ?_ ?_ ?_<;>simp [qM]
     all_goals simp
    ·rw [hcb,hcd] at hdd
     rw [hdd] at e2
     try simp only [go_sem,seval,hcb,qS (i:=i) (by omega)]
     repeat refine K ?_
     refine qT (i+1) ?_ hl' (by omega)
     rw [e1,e2]
     refine FA 19 0 24 ?_
     simp only [fS,fS2,fS2,qA,qC,hcself]
     refine F1 13 0 19 ?_
     simp only [fS,fS2,fS2,qA,qC]
     refine F1 13 1 20 ?_
     simp only [fS,fS2,fS2,qA,qC]
     refine F1 13 2 21 ?_
     simp only [fS,fS2,fS2,qA,qC]
     refine F1 13 3 22 ?_
     simp only [fS,fS2,fS2,qA,qC]
     refine Sub.shape [] (fun n=>if n=12 then 26 else n) (by omega) ?_ ?_ ?_ ?_<;>simp [qM]
     all_goals simp [wT]
   ·have hB:=qPf M j late hM hjl hst hcd hxi
    have hn:=qUk hcd
    have h3:=qN7 hjl hcd
    have hd:did p M ⟨j,late⟩=false:=by
     rw [hdd]
     simp [hcd]
    rw [hn] at e1
    rw [hd] at e2
    refine CA [(0,16),(1,15),(2,17),(3,18)] (hB) ?_
    try simp only [go_sem,seval]
    try simp only [go_sem,seval,qS (i:=i) (by omega)]
    refine qT (i+1) ?_ hl' (by omega)
    rw [e1,e2]
    refine Sub.trans (Sub.fold1 13 0 16 rfl (by simp [-gD]<;>omega) rfl (by decide) (by decide) rfl) ?_
    simp only [fS,fS2,qA,qC]
    refine Sub.trans (Sub.fold1 13 1 15 rfl (by simp [-gD]<;>omega) rfl (by decide) (by decide) rfl) ?_
    simp only [fS,fS2,qA,qC]
    refine Sub.trans (Sub.fold1 13 2 17 rfl (by simp [-gD]<;>omega) rfl (by decide) (by decide) rfl) ?_
    simp only [fS,fS2,qA,qC]
    refine Sub.trans (Sub.fold1 13 3 18 rfl (by simp [-gD]<;>omega) rfl (by decide) (by decide) rfl) ?_
    simp only [fS,fS2,qA,qC]
    refine Sub.shape [] id (by omega) ?_ ?_ ?_ ?_<;>simp [qM]
    all_goals simp
  ·simp only [decide_eq_false_iff_not] at hc
   obtain rfl:i=l.length:=by omega
   have hie:l.take l.length=l:=List.take_length
   simp only [go_sem,seval,hie]
   repeat refine K ?_
   apply wA (by simp)
   ·exact Sub.refl _
   ·simp [-List.drop_one,-gD,wG]<;>(first | rfl | exact ⟨rfl,rfl⟩ | exact ⟨rfl,rfl,rfl⟩ | skip)
end Go.Sep
