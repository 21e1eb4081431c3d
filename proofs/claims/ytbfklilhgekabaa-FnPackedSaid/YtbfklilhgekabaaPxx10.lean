/- Contracts of functions. -/
import Derived.Test.YtbfklilhgekabaaPxx9
open Bool renaming and_eq_true → qXa
open List renaming getD_eq_getElem?_getD → qXc, length_append → qXq, replicate → qX4, take_succ_cons → qZ6
namespace Go.Sep
set_option maxHeartbeats 16000000
open Go.Proofs
set_option linter.unusedSimpArgs false
set_option linter.unusedVariables false
set_option maxRecDepth 100000
def m98:MFn:=⟨10,[.t 4],kr [xI 4 0] (.seq (kr [xv 5 0,xv 6 1,bT 7 .gtr 5 6] (kF 7 [xv 8 0,xv 4 8])) (kR [xv 9 1,xv 4 9]))⟩
theorem qGu (f:Nat→Nat) (l:List vX):xM f (cores .own l)=cores .own l:=aS f _ ((sY l).2 trivial)
theorem qQp {A:Nat→Prop} (l:List vX):okR A (cores .own l)↔True:=by simp [xV _ ((sY l).2 trivial)]
theorem qQo {A:Nat→Prop} (l:List vX) (i:Nat) (r:List AV) (h:okL A r):okR A ((cores .own l).set i r):=sC _ _ _ (xV _ ((sY l).2 trivial)) h
theorem qL0 (f:Nat→Nat) (l:List (List wV)):xM f (dD .own l)=dD .own l:=aS f _ ((tG l).2 trivial)
theorem qTo {A:Nat→Prop} (l:List (List wV)):okR A (dD .own l)↔True:=by simp [xV _ ((tG l).2 trivial)]
theorem qTn {A:Nat→Prop} (l:List (List wV)) (i:Nat) (r:List AV) (h:okL A r):okR A ((dD .own l).set i r):=sC _ _ _ (xV _ ((tG l).2 trivial)) h
theorem qGw (f:Nat→Nat) (l:List (List yQ)):xM f (codes .own l)=codes .own l:=aS f _ ((cT l).2 trivial)
theorem qQv {A:Nat→Prop} (l:List (List yQ)):okR A (codes .own l)↔True:=by simp [xV _ ((cT l).2 trivial)]
theorem qQu {A:Nat→Prop} (l:List (List yQ)) (i:Nat) (r:List AV) (h:okL A r):okR A ((codes .own l).set i r):=sC _ _ _ (xV _ ((cT l).2 trivial)) h
theorem qCi (f:Nat→Nat) (l:List wV):xM f (vP .own l)=vP .own l:=aS f _ ((eT l).2 trivial)
theorem qLm {A:Nat→Prop} (l:List wV):okR A (vP .own l)↔True:=by simp [xV _ ((eT l).2 trivial)]
theorem qLl {A:Nat→Prop} (l:List wV) (i:Nat) (r:List AV) (h:okL A r):okR A ((vP .own l).set i r):=sC _ _ _ (xV _ ((eT l).2 trivial)) h
theorem qKf (f:Nat→Nat) (l:List Int):xM f (yF l)=yF l:=aS f _ ((vS l).2 trivial)
theorem qSt {A:Nat→Prop} (l:List Int):okR A (yF l)↔True:=by simp [xV _ ((vS l).2 trivial)]
attribute [go_sem] xO xM qD0 qGu qL0 qGw qCi qKf
attribute [simp] xO xM qD0 qGu qL0 qGw qCi qKf okR qQp qTo qQv qLm qSt qQo qTn qQu qLl
theorem qQ9 (a b:Int):wM Try.prog num 98 [.int .i64 a,.int .i64 b] [] (.int .i64 (max a b)):=by
 refine EN m98 Try.func94 ?_
 unfold m98
 by_cases h:b<a
 ·simp only [go_sem,seval,h]
  refine fz ?_; simp [jA,wF,wH,yE,-List.drop_one]
  omega
 ·simp only [go_sem,seval,h]
  refine fz ?_; simp [jA,wF,wH,yE,-List.drop_one]
  omega
def cZ (cds:List (List yQ)) (n1:Nat) (cs cs':List (List wV)) (tr:List bB) (R:List (List AV)) (v:List Int):FP :=
 [(0,some (4,[[.sl .own 1 (codes .own cds),.ns 1 0 n1,.sl .own 1 (dD .own cs),.sl .own 2 (yR tr)]]),some (4,[[.sl .own 1 (codes .own cds),.ns 1 0 n1,.sl .own 1 (dD .own cs'),.sl .own 2 (yR tr)]])),
  (1,some (4,R),some (4,R)),(2,some (1,yF v),some (1,yF v))]
def z24:List Int:=qX4 24 0
@[simp] theorem qWj:z24.length=24:=rfl
def qVb (cds:List (List yQ)) (n1:Nat) (cs cs':List (List wV)) (tr:List bB) (R:List (List AV)) (v x0:List Int):FP:=cZ cds n1 cs cs' tr R v++[(3,some (1,yF x0),some (1,yF x0))]
def qVa (cds:List (List yQ)) (n1:Nat) (cs cs':List (List wV)) (tr:List bB) (R:List (List AV)) (v x0 x1:List Int):FP:=cZ cds n1 cs cs' tr R v++[(3,some (1,yF x0),some (1,yF x0)),(4,some (1,yF x1),some (1,yF x1))]
def qVd (k:Int) (m:qP):FP:=[(0,some (1,codes .own m.codes),some (1,codes .own (mks qHf qMg k m.codes))),(1,some (4,cores .own m.cores),some (4,cores .own (mks qRe qQ1 (k+pH qHf m.codes) m.cores))),(2,some (1,dD .own m.mem.cells),some (1,dD .own (mks qNq qK3 (k+pH qHf m.codes+pH qRe m.cores) m.mem.cells))),(3,some (2,yR m.tr),some (2,yR (mks qW9 qQ0 (k+pH qHf m.codes+pH qRe m.cores+pH qNq m.mem.cells) m.tr)))]
attribute [go_sem] qVd
attribute [simp] qVd
theorem qQj {caps:List Int} {x:Ins} {f:Int} {starts:List Int} (h:yZ x starts.length caps.length=true) (hb:qS x.op 5 9=true→¬base caps x.n<0):((sV caps x f starts).length:Int)=wA x:=by
 have ho:=(mY h).1
 unfold sV wA
 rw [if_pos h]
 split
 ·rename_i hw
  rw [if_neg (hb hw)]
  rw [qK] at hw
  have hc:x.op=5∨x.op=6∨x.op=7∨x.op=8∨x.op=9:=by omega
  rcases hc with hc | hc | hc | hc | hc<;>simp [hc,cM,rS,rJ,lB,lY,oU]
 ·rename_i hw
  have hw :¬(5≤x.op∧x.op≤9):=fun e=>hw (qK.2 e)
  rw [if_neg (by omega),if_neg (by omega),if_neg (by omega),if_neg (by omega),if_neg (by omega),ho]
  simp [uE]
theorem qT7 {caps:List Int} {x:Ins} {f:Int} {starts:List Int} {j:Nat} (h:yZ x starts.length caps.length=true) (h8:((sV caps x f starts).getD j default).op=8):wA x≠1:=by
 have ho:=(mY h).1
 unfold sV at h8
 rw [if_pos h] at h8
 unfold wA
 split at h8
 ·rename_i hw
  rw [qK] at hw
  have hc:x.op=5∨x.op=6∨x.op=7∨x.op=8∨x.op=9:=by omega
  rcases hc with hc | hc | hc | hc | hc<;>simp [hc]
 ·exfalso
  cases j with
  | zero =>
   simp only [List.getD_cons_zero] at h8
   unfold single at h8
   repeat' split at h8
   all_goals (simp at h8)
  | succ j =>
   simp [qXc] at h8
   exact absurd h8 (by decide)
theorem qEj {b:List Ins} {n:Nat} (h:wN b n=true) (i:Nat) (hi:i<b.length):yZ (b.getD i default) b.length n=true:=by
 unfold wN at h
 simp only [qXa,List.all_eq_true] at h
 exact h.1.2 _ (jD b i default hi)
theorem qK7 {caps:List Int} (hl:zD caps=true) {n:Int} (h:0≤n∧n<caps.length) :¬base caps n<0:=by
 unfold base
 have hw:qS n 0 ((caps.length:Int)-1)=true:=by rw [qK]; omega
 rw [hl,hw]
 unfold zD at hl
 simp only [qXa] at hl
 have:=kD hl.1 n.toNat
 simp only [Bool.and_self,if_true]
 omega
theorem qCd {caps:List Int} {b:List Ins} (hb:wN b caps.length=true) (hl:zD caps=true) (i:Nat) (hi:i<b.length) (f:Int):((sV caps (b.getD i default) f (gJ b)).length:Int)=wA (b.getD i default):=by
 have h:=qEj hb i hi
 refine qQj (by rw [gJ,xJ]; exact h) fun hw=>qK7 hl ?_
 exact qMr h hw
theorem lA {caps:List Int} {b:List Ins} (hb:wN b caps.length=true) (hl:zD caps=true) :∀i,i≤b.length→((aD caps b i).length:Int)=szB (b.take i)
 | 0,_=>by simp [aD,szB]
 | i+1,hi=>by
  have:=lA hb hl i (by omega)
  have:=qCd hb hl i (by omega) (szB (b.take i))
  rw [lV b i (by omega)]
  simp only [aD,qXq]
  omega
theorem qKw {caps:List Int} {b:List Ins} (hb:wN b caps.length=true) (hl:zD caps=true) :∀(n:Nat),n≤b.length→∀at_:Nat,at_<(aD caps b n).length→
  ∃i,i<n∧szB (b.take i)≤at_∧(at_:Int)<szB (b.take (i+1))∧(((aD caps b n).getD at_ default).op=8→wA (b.getD i default)≠1)
 | 0,_,at_,h=>by simp [aD] at h
 | n+1,hn,at_,h=>by
  by_cases hc:at_<(aD caps b n).length
  ·obtain ⟨i,h1,h2,h3,h4⟩:=qKw hb hl n (by omega) at_ hc
   refine ⟨i,by omega,h2,h3,fun h8=>h4 ?_⟩
   rw [←h8,aD,qXc,qXc,List.getElem?_append_left hc]
  ·have hs:=lA hb hl n (by omega)
   have he:=qCd hb hl n (by omega) (szB (b.take n))
   have hz:=lV b n (by omega)
   simp only [aD,qXq] at h
   refine ⟨n,by omega,by omega,by omega,fun h8=>?_⟩
   rw [aD,qXc,List.getElem?_append_right (by omega),←qXc] at h8
   exact qT7 (by rw [gJ,xJ]; exact qEj hb n (by omega)) h8
theorem qD7 :∀(b:List Ins) (off k at_:Int) (i:Nat),i<b.length→off+szB (b.take i)≤at_→at_<off+szB (b.take (i+1))→(gU b off k at_).1=k+i
 | [],_,_,_,i,h,_,_=>by simp at h
 | x::l,off,k,at_,0,_,h1,h2=>by
  simp only [List.take_zero,szB,qZ6] at h1 h2
  unfold gU
  rw [if_pos (by omega)]
  simp
 | x::l,off,k,at_,i+1,h,h1,h2=>by
  simp only [qZ6,szB] at h1 h2
  have hl:=(qHm (l.take i)).1
  unfold gU
  rw [if_neg (by omega)]
  rw [qD7 l (off+wA x) (k+1) at_ i (by simpa using h) (by omega) (by omega)]
  push_cast
  omega
theorem qUy {caps:List Int} {b:List Ins} (hb:wN b caps.length=true) (hl:zD caps=true) {at_:Int} (h0:0≤at_) (h1:at_<((comp caps b).length:Int)) :
  0≤(gU b 0 0 at_).1∧(gU b 0 0 at_).1.toNat<b.length∧(((comp caps b).getD at_.toNat default).op=8→wA (b.getD (gU b 0 0 at_).1.toNat default)≠1):=by
 obtain ⟨i,g1,g2,g3,g4⟩:=qKw hb hl b.length (Nat.le_refl _) at_.toNat (by unfold comp at h1; omega)
 have hp:=qD7 b 0 0 at_ i g1 (by omega) (by omega)
 rw [hp]
 have e:((0:Int)+(i:Int)).toNat=i:=by omega
 rw [e]
 exact ⟨by omega,g1,g4⟩
def iU (p:wJ) (s:yQ) (regs:List Int) (who at_:Int):Bool :=
 decide (who<p.bods.length)&&decide (0≤(gU (p.bods.getD who.toNat []) 0 0 at_).1) &&
  ((decide (s.op=8)&&qS s.r 0 (regs.length-1)&&decide (regs.getD s.r.toNat 0=0))||decide (wA ((p.bods.getD who.toNat []).getD (gU (p.bods.getD who.toNat []) 0 0 at_).1.toNat default)=1))
def did (p:wJ) (m:qP) (x:qJ3):Bool:=decide ((yV m x).2=0)&&iU p (qM m x.who.toNat) (qI (yV m x).1 x.who.toNat).regs x.who (qI m x.who.toNat).at_
attribute [go_sem] cZ qVb qVa
attribute [simp] cZ qVb qVa
theorem zJ {s:yQ} {n:Int} (h:tT s n=true):0≤s.r∧s.r≤7∧0≤s.b∧s.b≤7∧1≤s.op∧s.op≤13∧((0≤s.a∧s.a≤7)∨((s.op=5∨s.op=6∨s.op=7)∧s.a=-1)):=by
 unfold tT at h
 simp only [qXa,qK,Bool.or_eq_true,decide_eq_true_eq] at h
 obtain ⟨⟨⟨h1,h2⟩,h3⟩,h4⟩:=h
 have:1≤s.op∧s.op≤13:=by
  repeat' split at h4
  all_goals (first | omega | simp at h4)
 omega
@[simp] def qWs (m:qP):AV:=.agg [.ns 0 0 m.codes.length,.ns 1 0 m.cores.length,.ns 2 0 m.mem.cells.length,.ns 3 0 m.tr.length]
@[simp] def qWv (m:qP):FP:=[(0,some (1,codes .own m.codes),none),(1,some (4,cores .own m.cores),none),(2,some (1,dD .own m.mem.cells),none),(3,some (2,yR m.tr),none)]
@[simp] def qWt (m:qP):FP:=[(0,some (1,codes .own m.codes),some (1,codes .own m.codes)),(1,some (4,cores .own m.cores),some (4,cores .own m.cores)),(2,some (1,dD .own m.mem.cells),some (1,dD .own m.mem.cells)),(3,some (2,yR m.tr),some (2,yR m.tr))]
attribute [go_sem] qWv qWs qWt
def sU (p:wJ) (st:qR×Int) (i:Nat):qR×Int:=((qQ p st.1 i).1,if (qQ p st.1 i).2=0 then st.2+1 else st.2)
def gZ (p:wJ) (j:Nat) (st:qR×Int):qR×Int:=(List.range j).foldl (sU p) st
theorem pA (p:wJ) (j:Nat) (st:qR×Int):gZ p (j+1) st=sU p (gZ p j st) j:=by
 unfold gZ
 rw [List.range_succ,List.foldl_append]
 rfl
def zR (p:wJ) (s:qR):Nat→qR×Int
 | 0=>(s,0)
 | k+1=>gZ p p.bods.length (zR p s k)
def qE1 (p:wJ) (s:qR) (rounds:Int):qR×Int:=if qW p s then zR p s (if rounds<200 then rounds else 200).toNat else (⟨[],[],[]⟩,0)
theorem qI0 {p:wJ} {s:qR} (h:qW p s=true):s.ths.length=p.bods.length∧p.bods.length≤4:=by
 obtain ⟨hp,h1,_⟩:=(yW p s).1 h
 simp only [jB,qXa,decide_eq_true_eq,qK] at hp
 omega
theorem nC {p:wJ} {st:qR×Int} {n:Int} (h:qW p st.1=true) (h0:0≤st.2) (h1:st.2≤n) :∀j,qW p (gZ p j st).1=true∧0≤(gZ p j st).2∧(gZ p j st).2≤n+j
 | 0=>⟨h,h0,by simpa [gZ] using h1⟩
 | j+1=>by
  rw [pA]
  have ih:=nC h h0 h1 j
  refine ⟨aG _ ih.1,?_⟩
  unfold sU
  simp only
  split<;>(push_cast; omega)
theorem qKm {p:wJ} {s:qR} (h:qW p s=true) :∀k,qW p (zR p s k).1=true∧0≤(zR p s k).2∧(zR p s k).2≤4*k
 | 0=>⟨h,by simp [zR],by simp [zR]⟩
 | k+1=>by
  have ih:=qKm h k
  have h4:=(qI0 h).2
  have:=nC (p:=p) (st:=zR p s k) (n:=4*k) ih.1 ih.2.1 ih.2.2 p.bods.length
  simp only [zR]
  refine ⟨this.1,this.2.1,?_⟩
  have:=this.2.2
  push_cast at this⊢
  omega
def qWc (p:wJ) (M:qP) (i:Nat):Bool:=decide ((qI M i).st=0)&&!qV3 p M i
def rst (p:wJ) (i:Nat):Nat→qP→qP
 | 0,M=>M
 | n+1,M=>if qWc p M i then rst p i n (yV M ⟨i,0⟩).1 else M
def qWo (p:wJ) (l:List Nat) (M:qP):qP:=l.foldl (fun M i=>rst p i 40 M) M
def w00:wV:=⟨0,z24⟩
def qWr:List (List wV):=qX4 24 [w00]
def z8:List Int:=qX4 8 0
@[simp] theorem qWn:z8.length=8:=rfl
def k00:vX:=⟨0,z8,z24,0⟩
def qOk (l:List (List yQ)):qP:=⟨l,qX4 l.length k00,⟨qWr⟩,[]⟩
attribute [simp] qOk
attribute [go_sem] qOk
theorem qG8 (f:Nat→Nat) (l:List bB):xM f (yR l)=yR l:=aS f _ ((uO l).2 trivial)
theorem qPr {A:Nat→Prop} (l:List bB):okR A (yR l)↔True:=by simp [xV _ ((uO l).2 trivial)]
theorem qFt (f:Nat→Nat) (l:List yQ):xM f (bW l)=bW l:=aS f _ ((cD l).2 trivial)
theorem qP9 {A:Nat→Prop} (l:List yQ):okR A (bW l)↔True:=by simp [xV _ ((cD l).2 trivial)]
attribute [go_sem] qG8 qFt
attribute [simp] qG8 qFt qPr qP9
@[simp] def qWu (m:qP) (j:Nat):FP:=[(0,some (1,(codes .own m.codes).set j [.ns 4 0 (m.codes.getD j []).length]),some (1,(codes .own m.codes).set j [.ns 4 0 (m.codes.getD j []).length])),(1,some (4,cores .own m.cores),some (4,cores .own m.cores)),(2,some (1,dD .own m.mem.cells),some (1,dD .own m.mem.cells)),(3,some (2,yR m.tr),some (2,yR m.tr)),(4,some (5,bW (m.codes.getD j [])),some (5,bW (m.codes.getD j [])))]
attribute [go_sem] qWu
def jC (cs:List (List wV)) (c:Nat):Int:=((cs.getD c []).getD ((cs.getD c []).length-1) default).v
def qOf:jP:=⟨0,[],false⟩
def qKz (cs:List (List wV)) (b:Nat) (room f:Int) (k:Nat):List Int:=(List.range k).map fun (i:Nat)=>jC cs (b+4+((f+(i:Int))%room).toNat)
theorem qIq (cs:List (List wV)) (b:Nat) (room f:Int) (k:Nat):(qKz cs b room f k).length=k:=by simp [qKz]
def qN5 (cs:List (List wV)) (b:Nat) (room:Int):jP×Bool :=
 if qS (jC cs (b+1)) 0 (room-1)&&qS (jC cs (b+2)) 0 room&&qS (jC cs (b+3)) 0 1 then
  (⟨room,qKz cs b room (jC cs (b+1)) (jC cs (b+2)).toNat,decide (jC cs (b+3)=1)⟩,true)
 else (qOf,false)
def qAm (cs:List (List wV)) (caps:List Int) (n:Int):jP×Bool :=
 if !decide (base caps n<0)&&mO cs then qN5 cs (base caps n).toNat (caps.getD n.toNat 0) else (qOf,false)
def qCb (cs:List (List wV)) (caps:List Int) (n:Int):Bool:=decide (0≤base caps n)&&mO cs&&!decide (jC cs (base caps n).toNat=0)
end Go.Sep
