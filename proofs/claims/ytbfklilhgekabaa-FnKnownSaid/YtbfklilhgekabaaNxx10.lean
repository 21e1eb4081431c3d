/- Contracts of functions. -/
import Derived.Test.YtbfklilhgekabaaNxx9
open List renaming drop_one → qYt, getD_eq_getElem?_getD → qXb, length_append → qXp, replicate → qX3, take_succ_cons → qZ6
namespace Go.Sep
set_option maxHeartbeats 16000000
open Go.Proofs
set_option linter.unusedSimpArgs false
set_option linter.unusedVariables false
set_option maxRecDepth 100000
open Nat renaming reduceAdd → qA, reduceMul → qB, reduceEqDiff → qC, reduceBEq → qD
open Int renaming reduceToNat → qE, reduceEq → qF, reduceLT → qG, reduceLE → qH
open List renaming getD_eq_getElem?_getD → gD
def m98:MFn:=⟨10,[.t 4],kr [xI 4 0] (.seq (kr [xv 5 0,xv 6 1,bT 7 .gtr 5 6] (kF 7 [xv 8 0,xv 4 8])) (kR [xv 9 1,xv 4 9]))⟩
theorem qHd (f:Nat→Nat) (l:List uH):aH f (cores .own l)=cores .own l:=eD f _ ((tG l).2 trivial)
theorem qQy {A:Nat→Prop} (l:List uH):okR A (cores .own l)↔True:=by simp [aJ _ ((tG l).2 trivial)]
theorem qQx {A:Nat→Prop} (l:List uH) (i:Nat) (r:List AV) (h:okL A r):okR A ((cores .own l).set i r):=sH _ _ _ (aJ _ ((tG l).2 trivial)) h
theorem qLf (f:Nat→Nat) (l:List (List wZ)):aH f (dX .own l)=dX .own l:=eD f _ ((tL l).2 trivial)
theorem qTp {A:Nat→Prop} (l:List (List wZ)):okR A (dX .own l)↔True:=by simp [aJ _ ((tL l).2 trivial)]
theorem qTo {A:Nat→Prop} (l:List (List wZ)) (i:Nat) (r:List AV) (h:okL A r):okR A ((dX .own l).set i r):=sH _ _ _ (aJ _ ((tL l).2 trivial)) h
theorem qHf (f:Nat→Nat) (l:List (List jC)):aH f (codes .own l)=codes .own l:=eD f _ ((fE l).2 trivial)
theorem qR4 {A:Nat→Prop} (l:List (List jC)):okR A (codes .own l)↔True:=by simp [aJ _ ((fE l).2 trivial)]
theorem qR3 {A:Nat→Prop} (l:List (List jC)) (i:Nat) (r:List AV) (h:okL A r):okR A ((codes .own l).set i r):=sH _ _ _ (aJ _ ((fE l).2 trivial)) h
theorem qCm (f:Nat→Nat) (l:List wZ):aH f (vW .own l)=vW .own l:=eD f _ ((cH l).2 trivial)
theorem qM0 {A:Nat→Prop} (l:List wZ):okR A (vW .own l)↔True:=by simp [aJ _ ((cH l).2 trivial)]
theorem qLz {A:Nat→Prop} (l:List wZ) (i:Nat) (r:List AV) (h:okL A r):okR A ((vW .own l).set i r):=sH _ _ _ (aJ _ ((cH l).2 trivial)) h
theorem qKv (f:Nat→Nat) (l:List Int):aH f (wT l)=wT l:=eD f _ ((uA l).2 trivial)
theorem qSu {A:Nat→Prop} (l:List Int):okR A (wT l)↔True:=by simp [aJ _ ((uA l).2 trivial)]
attribute [go_sem] aI aH qD9 qHd qLf qHf qCm qKv
attribute [simp] aI aH qD9 qHd qLf qHf qCm qKv okR qQy qTp qR4 qM0 qSu qQx qTo qR3 qLz
theorem qQk (a b:Int):wJ Try.prog num 98 [.int .i64 a,.int .i64 b] [] (.int .i64 (max a b)):=by
 refine EN m98 Try.func94 ?_
 unfold m98
 by_cases h:b<a
 ·simp only [go_sem,seval,h]
  refine fz ?_; simp [jD,wN,wP,yA,-qYt]
  omega
 ·simp only [go_sem,seval,h]
  refine fz ?_; simp [jD,wN,wP,yA,-qYt]
  omega
def fJ (cds:List (List jC)) (n1:Nat) (cs cs':List (List wZ)) (tr:List gM) (R:List (List AV)) (v:List Int):FP :=
 [(0,some (4,[[.sl .own 1 (codes .own cds),.ns 1 0 n1,.sl .own 1 (dX .own cs),.sl .own 2 (jK tr)]]),some (4,[[.sl .own 1 (codes .own cds),.ns 1 0 n1,.sl .own 1 (dX .own cs'),.sl .own 2 (jK tr)]])),
  (1,some (4,R),some (4,R)),(2,some (1,wT v),some (1,wT v))]
def z24:List Int:=qX3 24 0
@[simp] theorem qWi:z24.length=24:=rfl
def qVc (cds:List (List jC)) (n1:Nat) (cs cs':List (List wZ)) (tr:List gM) (R:List (List AV)) (v x0:List Int):FP:=fJ cds n1 cs cs' tr R v++[(3,some (1,wT x0),some (1,wT x0))]
def qVb (cds:List (List jC)) (n1:Nat) (cs cs':List (List wZ)) (tr:List gM) (R:List (List AV)) (v x0 x1:List Int):FP:=fJ cds n1 cs cs' tr R v++[(3,some (1,wT x0),some (1,wT x0)),(4,some (1,wT x1),some (1,wT x1))]
def qVe (k:Int) (m:qQ):FP:=[(0,some (1,codes .own m.codes),some (1,codes .own (mks qHz qMs k m.codes))),(1,some (4,cores .own m.cores),some (4,cores .own (mks qRj qQf (k+mF qHz m.codes) m.cores))),(2,some (1,dX .own m.mem.cells),some (1,dX .own (mks qO5 qKl (k+mF qHz m.codes+mF qRj m.cores) m.mem.cells))),(3,some (2,jK m.tr),some (2,jK (mks qWa qQe (k+mF qHz m.codes+mF qRj m.cores+mF qO5 m.mem.cells) m.tr)))]
attribute [go_sem] qVe
attribute [simp] qVe
theorem qQv {caps:List Int} {x:Ins} {f:Int} {starts:List Int} (h:jL x starts.length caps.length=true) (hb:qS x.op 5 9=true→¬base caps x.n<0):((tD caps x f starts).length:Int)=wE x:=by
 have ho:=(nK h).1
 unfold tD wE
 rw [if_pos h]
 split
 ·rename_i hw
  rw [if_neg (hb hw)]
  rw [qK] at hw
  have hc:x.op=5∨x.op=6∨x.op=7∨x.op=8∨x.op=9:=by omega
  rcases hc with hc | hc | hc | hc | hc<;>simp [hc,cY,sA,rS,lN,mJ,pA]
 ·rename_i hw
  have hw :¬(5≤x.op∧x.op≤9):=fun e=>hw (qK.2 e)
  rw [if_neg (by omega),if_neg (by omega),if_neg (by omega),if_neg (by omega),if_neg (by omega),ho]
  simp [uG]
theorem qT7 {caps:List Int} {x:Ins} {f:Int} {starts:List Int} {j:Nat} (h:jL x starts.length caps.length=true) (h8:((tD caps x f starts).getD j default).op=8):wE x≠1:=by
 have ho:=(nK h).1
 unfold tD at h8
 rw [if_pos h] at h8
 unfold wE
 split at h8
 ·rename_i hw
  rw [qK] at hw
  have hc:x.op=5∨x.op=6∨x.op=7∨x.op=8∨x.op=9:=by omega
  rcases hc with hc | hc | hc | hc | hc<;>simp [hc]
 ·exfalso
  cases j with
  | zero =>
   simp only [List.getD_cons_zero] at h8
   unfold single at h8
   repeat' split at h8
   all_goals (simp at h8)
  | succ j =>
   simp [qXb] at h8
   exact absurd h8 (by decide)
theorem qEw {b:List Ins} {n:Nat} (h:wV b n=true) (i:Nat) (hi:i<b.length):jL (b.getD i default) b.length n=true:=by
 unfold wV at h
 simp only [Bool.and_eq_true,List.all_eq_true] at h
 exact h.1.2 _ (yR b i default hi)
theorem qKn {caps:List Int} (hl:zZ caps=true) {n:Int} (h:0≤n∧n<caps.length) :¬base caps n<0:=by
 unfold base
 have hw:qS n 0 ((caps.length:Int)-1)=true:=by rw [qK]; omega
 rw [hl,hw]
 unfold zZ at hl
 simp only [Bool.and_eq_true] at hl
 have:=kQ hl.1 n.toNat
 simp only [Bool.and_self,if_true]
 omega
theorem qCi {caps:List Int} {b:List Ins} (hb:wV b caps.length=true) (hl:zZ caps=true) (i:Nat) (hi:i<b.length) (f:Int):((tD caps (b.getD i default) f (gX b)).length:Int)=wE (b.getD i default):=by
 have h:=qEw hb i hi
 refine qQv (by rw [gX,aF]; exact h) fun hw=>qKn hl ?_
 exact qN2 h hw
theorem lM {caps:List Int} {b:List Ins} (hb:wV b caps.length=true) (hl:zZ caps=true) :∀i,i≤b.length→((aQ caps b i).length:Int)=szB (b.take i)
 | 0,_=>by simp [aQ,szB]
 | i+1,hi=>by
  have:=lM hb hl i (by omega)
  have:=qCi hb hl i (by omega) (szB (b.take i))
  rw [mH b i (by omega)]
  simp only [aQ,qXp]
  omega
theorem qLb {caps:List Int} {b:List Ins} (hb:wV b caps.length=true) (hl:zZ caps=true) :∀(n:Nat),n≤b.length→∀at_:Nat,at_<(aQ caps b n).length→
  ∃i,i<n∧szB (b.take i)≤at_∧(at_:Int)<szB (b.take (i+1))∧(((aQ caps b n).getD at_ default).op=8→wE (b.getD i default)≠1)
 | 0,_,at_,h=>by simp [aQ] at h
 | n+1,hn,at_,h=>by
  by_cases hc:at_<(aQ caps b n).length
  ·obtain ⟨i,h1,h2,h3,h4⟩:=qLb hb hl n (by omega) at_ hc
   refine ⟨i,by omega,h2,h3,fun h8=>h4 ?_⟩
   rw [←h8,aQ,qXb,qXb,List.getElem?_append_left hc]
  ·have hs:=lM hb hl n (by omega)
   have he:=qCi hb hl n (by omega) (szB (b.take n))
   have hz:=mH b n (by omega)
   simp only [aQ,qXp] at h
   refine ⟨n,by omega,by omega,by omega,fun h8=>?_⟩
   rw [aQ,qXb,List.getElem?_append_right (by omega),←qXb] at h8
   exact qT7 (by rw [gX,aF]; exact qEw hb n (by omega)) h8
theorem qDg :∀(b:List Ins) (off k at_:Int) (i:Nat),i<b.length→off+szB (b.take i)≤at_→at_<off+szB (b.take (i+1))→(dL b off k at_).1=k+i
 | [],_,_,_,i,h,_,_=>by simp at h
 | x::l,off,k,at_,0,_,h1,h2=>by
  simp only [List.take_zero,szB,qZ6] at h1 h2
  unfold dL
  rw [if_pos (by omega)]
  simp
 | x::l,off,k,at_,i+1,h,h1,h2=>by
  simp only [qZ6,szB] at h1 h2
  have hl:=(qI6 (l.take i)).1
  unfold dL
  rw [if_neg (by omega)]
  rw [qDg l (off+wE x) (k+1) at_ i (by simpa using h) (by omega) (by omega)]
  push_cast
  omega
theorem qV0 {caps:List Int} {b:List Ins} (hb:wV b caps.length=true) (hl:zZ caps=true) {at_:Int} (h0:0≤at_) (h1:at_<((comp caps b).length:Int)) :
  0≤(dL b 0 0 at_).1∧(dL b 0 0 at_).1.toNat<b.length∧(((comp caps b).getD at_.toNat default).op=8→wE (b.getD (dL b 0 0 at_).1.toNat default)≠1):=by
 obtain ⟨i,g1,g2,g3,g4⟩:=qLb hb hl b.length (Nat.le_refl _) at_.toNat (by unfold comp at h1; omega)
 have hp:=qDg b 0 0 at_ i g1 (by omega) (by omega)
 rw [hp]
 have e:((0:Int)+(i:Int)).toNat=i:=by omega
 rw [e]
 exact ⟨by omega,g1,g4⟩
def kD (p:yM) (s:jC) (regs:List Int) (who at_:Int):Bool :=
 decide (who<p.bods.length)&&decide (0≤(dL (p.bods.getD who.toNat []) 0 0 at_).1) &&
  ((decide (s.op=8)&&qS s.r 0 (regs.length-1)&&decide (regs.getD s.r.toNat 0=0))||decide (wE ((p.bods.getD who.toNat []).getD (dL (p.bods.getD who.toNat []) 0 0 at_).1.toNat default)=1))
def did (p:yM) (m:qQ) (x:qJj):Bool:=decide ((jI m x).2=0)&&kD p (qN m x.who.toNat) (qI (jI m x).1 x.who.toNat).regs x.who (qI m x.who.toNat).at_
attribute [go_sem] fJ qVc qVb
attribute [simp] fJ qVc qVb
theorem xH {s:jC} {n:Int} (h:tY s n=true):0≤s.r∧s.r≤7∧0≤s.b∧s.b≤7∧1≤s.op∧s.op≤13∧((0≤s.a∧s.a≤7)∨((s.op=5∨s.op=6∨s.op=7)∧s.a=-1)):=by
 unfold tY at h
 simp only [Bool.and_eq_true,qK,Bool.or_eq_true,decide_eq_true_eq] at h
 obtain ⟨⟨⟨h1,h2⟩,h3⟩,h4⟩:=h
 have:1≤s.op∧s.op≤13:=by
  repeat' split at h4
  all_goals (first | omega | simp at h4)
 omega
@[simp] def qWr (m:qQ):AV:=.agg [.ns 0 0 m.codes.length,.ns 1 0 m.cores.length,.ns 2 0 m.mem.cells.length,.ns 3 0 m.tr.length]
@[simp] def qWu (m:qQ):FP:=[(0,some (1,codes .own m.codes),none),(1,some (4,cores .own m.cores),none),(2,some (1,dX .own m.mem.cells),none),(3,some (2,jK m.tr),none)]
@[simp] def qWs (m:qQ):FP:=[(0,some (1,codes .own m.codes),some (1,codes .own m.codes)),(1,some (4,cores .own m.cores),some (4,cores .own m.cores)),(2,some (1,dX .own m.mem.cells),some (1,dX .own m.mem.cells)),(3,some (2,jK m.tr),some (2,jK m.tr))]
attribute [go_sem] qWu qWr qWs
def m143:MFn:=⟨22,[.cell 6 3 true,.t 7],kr [xb 3 0,xb 4 1,xo 6 (.alloc [.nil,.nil,.nil]),xI 7 0] (.seq (kr [xm 10 2 3,xm 11 3 4,xc2 12 50 (.t 10) (.t 11),xN 13 12] (kF 13 [xo 14 (.build [.nil,.nil,.nil] []),xS 3 6 14,xI 7 1])) (kr [xm 15 3 4,xc1 16 49 (.t 15),xo 8 (.alloc [.nil,.nil,.nil]),xS 3 8 16] (kr [xm 17 2 3,xv 18 2,xo 19 (.call 43 [false,true,false] [.t 17,.t 8,.t 18]),xv 9 19] (kR [xm 20 3 8,xv 21 9,xS 3 6 20,xv 7 21]))))⟩
theorem sV (p:yM) (s:qW) (who:Int) (hp:rG p) (hs:qHo s):wJ Try.prog num 143 [.agg (zH .bw p),.agg (vY .bw s),.int .i64 who] [] (.tup [.agg (vY .own (dN p s who).1),.int .i64 (dN p s who).2]):=by
 refine EN m143 Try.func16 ?_
 unfold m143
 simp only [go_sem,seval]
 repeat refine K ?_
 refine CA [] (qC4 p s hp hs) ?_
 try simp only [go_sem,seval]
 repeat refine K ?_
 cases hok:wG p s
 ·try simp only [go_sem,seval,hok]
  repeat refine K ?_
  apply qIv (by simp)
  ·exact Sub.refl _
  ·simp [-qYt,-gD,dN,hok,qB3,qHg,qGr]<;>(first | rfl | exact ⟨rfl,rfl⟩ | exact ⟨rfl,rfl,rfl⟩ | skip)
 try simp only [go_sem,seval,hok]
 repeat refine K ?_
 refine CA [] (qG0 s hs) ?_
 try simp only [go_sem,seval]
 repeat refine K ?_
 have htr:=mY hok
 apply qTs
 ·refine Sub.trans (Sub.fold1 16 0 13 rfl (by simp [-gD]<;>omega) rfl (by decide) (by decide) rfl) ?_
  simp only [fS,qA,qC]
  refine Sub.trans (Sub.fold1 16 1 14 rfl (by simp [-gD]<;>omega) rfl (by decide) (by decide) rfl) ?_
  simp only [fS,qA,qC]
  refine Sub.trans (Sub.fold1 16 2 15 rfl (by simp [-gD]<;>omega) rfl (by decide) (by decide) rfl) ?_
  simp only [fS,qA,qC]
  exact Sub.refl _
 refine CA [(0,16)] (qFk p s who hp hs hok htr) ?_
 try simp only [go_sem,seval]
 repeat refine K ?_
 try simp only [go_sem,seval]
 repeat refine K ?_
 apply qIv (by simp)
 ·exact Sub.refl _
 ·simp [-qYt,-gD,dN,hok]<;>(first | rfl | exact ⟨rfl,rfl⟩ | exact ⟨rfl,rfl,rfl⟩ | skip)
def qWe (p:yM) (M:qQ) (i:Nat):Bool:=decide ((qI M i).st=0)&&!qV5 p M i
def rst (p:yM) (i:Nat):Nat→qQ→qQ
 | 0,M=>M
 | n+1,M=>if qWe p M i then rst p i n (jI M ⟨i,0⟩).1 else M
def qWn (p:yM) (l:List Nat) (M:qQ):qQ:=l.foldl (fun M i=>rst p i 40 M) M
def w00:wZ:=⟨0,z24⟩
def qWq:List (List wZ):=qX3 24 [w00]
def z8:List Int:=qX3 8 0
@[simp] theorem qWm:z8.length=8:=rfl
def k00:uH:=⟨0,z8,z24,0⟩
def qOz (l:List (List jC)):qQ:=⟨l,qX3 l.length k00,⟨qWq⟩,[]⟩
attribute [simp] qOz
attribute [go_sem] qOz
theorem qGp (f:Nat→Nat) (l:List gM):aH f (jK l)=jK l:=eD f _ ((bA l).2 trivial)
theorem qQ6 {A:Nat→Prop} (l:List gM):okR A (jK l)↔True:=by simp [aJ _ ((bA l).2 trivial)]
theorem qGb (f:Nat→Nat) (l:List jC):aH f (gN l)=gN l:=eD f _ ((cQ l).2 trivial)
theorem qPm {A:Nat→Prop} (l:List jC):okR A (gN l)↔True:=by simp [aJ _ ((cQ l).2 trivial)]
attribute [go_sem] qGp qGb
attribute [simp] qGp qGb qQ6 qPm
@[simp] def qWt (m:qQ) (j:Nat):FP:=[(0,some (1,(codes .own m.codes).set j [.ns 4 0 (m.codes.getD j []).length]),some (1,(codes .own m.codes).set j [.ns 4 0 (m.codes.getD j []).length])),(1,some (4,cores .own m.cores),some (4,cores .own m.cores)),(2,some (1,dX .own m.mem.cells),some (1,dX .own m.mem.cells)),(3,some (2,jK m.tr),some (2,jK m.tr)),(4,some (5,gN (m.codes.getD j [])),some (5,gN (m.codes.getD j [])))]
attribute [go_sem] qWt
end Go.Sep
