/- Contracts of functions. -/
import Derived.Test.YtfecojefbnnknaaTxx9
open Bool renaming and_eq_true → qZ8
open List renaming getD_eq_getElem?_getD → qZa, length_append → qZo, replicate → qZ2, take_succ_cons → wB6
namespace Go.Sep
set_option maxHeartbeats 16000000
open Go.Proofs
set_option linter.unusedSimpArgs false
set_option linter.unusedVariables false
set_option maxRecDepth 100000
def m98:MFn:=⟨10,[.t 4],kr [xI 4 0] (.seq (kr [xv 5 0,xv 6 1,bT 7 .gtr 5 6] (kF 7 [xv 8 0,xv 4 8])) (kR [xv 9 1,xv 4 9]))⟩
def qW5:qO→List qCj→qO
 | m,[]=>m
 | m,x::l=>qW5 (yV m x).1 l
theorem qHq (f:Nat→Nat) (l:List uE):xZ f (cores .own l)=cores .own l:=aW f _ ((tH l).2 trivial)
theorem qRt {A:Nat→Prop} (l:List uE):okR A (cores .own l)↔True:=by simp [aC _ ((tH l).2 trivial)]
theorem qRs {A:Nat→Prop} (l:List uE) (i:Nat) (r:List AV) (h:okL A r):okR A ((cores .own l).set i r):=sH _ _ _ (aC _ ((tH l).2 trivial)) h
theorem qM0 (f:Nat→Nat) (l:List (List wY)):xZ f (dS .own l)=dS .own l:=aW f _ ((tM l).2 trivial)
theorem qV2 {A:Nat→Prop} (l:List (List wY)):okR A (dS .own l)↔True:=by simp [aC _ ((tM l).2 trivial)]
theorem qV1 {A:Nat→Prop} (l:List (List wY)) (i:Nat) (r:List AV) (h:okL A r):okR A ((dS .own l).set i r):=sH _ _ _ (aC _ ((tM l).2 trivial)) h
theorem qHs (f:Nat→Nat) (l:List (List yU)):xZ f (codes .own l)=codes .own l:=aW f _ ((fD l).2 trivial)
theorem qRz {A:Nat→Prop} (l:List (List yU)):okR A (codes .own l)↔True:=by simp [aC _ ((fD l).2 trivial)]
theorem qRy {A:Nat→Prop} (l:List (List yU)) (i:Nat) (r:List AV) (h:okL A r):okR A ((codes .own l).set i r):=sH _ _ _ (aC _ ((fD l).2 trivial)) h
theorem qD2 (f:Nat→Nat) (l:List wY):xZ f (vV .own l)=vV .own l:=aW f _ ((cE l).2 trivial)
theorem qMl {A:Nat→Prop} (l:List wY):okR A (vV .own l)↔True:=by simp [aC _ ((cE l).2 trivial)]
theorem qMk {A:Nat→Prop} (l:List wY) (i:Nat) (r:List AV) (h:okL A r):okR A ((vV .own l).set i r):=sH _ _ _ (aC _ ((cE l).2 trivial)) h
theorem qLh (f:Nat→Nat) (l:List Int):xZ f (wK l)=wK l:=aW f _ ((vY l).2 trivial)
theorem qU6 {A:Nat→Prop} (l:List Int):okR A (wK l)↔True:=by simp [aC _ ((vY l).2 trivial)]
attribute [go_sem] aA xZ qDo qHq qM0 qHs qD2 qLh
attribute [simp] aA xZ qDo qHq qM0 qHs qD2 qLh okR qRt qV2 qRz qMl qU6 qRs qV1 qRy qMk
theorem qRf (a b:Int):wB Try.prog num 98 [.int .i64 a,.int .i64 b] [] (.int .i64 (max a b)):=by
 refine EN m98 Try.func97 ?_
 unfold m98
 by_cases h:b<a
 ·simp only [go_sem,seval,h]
  refine fz ?_; simp [jE,wL,wN,yF,-List.drop_one]
  omega
 ·simp only [go_sem,seval,h]
  refine fz ?_; simp [jE,wL,wN,yF,-List.drop_one]
  omega
def fK (cds:List (List yU)) (n1:Nat) (cs cs':List (List wY)) (tr:List bS) (R:List (List AV)) (v:List Int):FP :=
 [(0,some (4,[[.sl .own 1 (codes .own cds),.ns 1 0 n1,.sl .own 1 (dS .own cs),.sl .own 2 (jB tr)]]),some (4,[[.sl .own 1 (codes .own cds),.ns 1 0 n1,.sl .own 1 (dS .own cs'),.sl .own 2 (jB tr)]])),
  (1,some (4,R),some (4,R)),(2,some (1,wK v),some (1,wK v))]
def z24:List Int:=qZ2 24 0
@[simp] theorem qYg:z24.length=24:=rfl
def qX3 (cds:List (List yU)) (n1:Nat) (cs cs':List (List wY)) (tr:List bS) (R:List (List AV)) (v x0:List Int):FP:=fK cds n1 cs cs' tr R v++[(3,some (1,wK x0),some (1,wK x0))]
def qX2 (cds:List (List yU)) (n1:Nat) (cs cs':List (List wY)) (tr:List bS) (R:List (List AV)) (v x0 x1:List Int):FP:=fK cds n1 cs cs' tr R v++[(3,some (1,wK x0),some (1,wK x0)),(4,some (1,wK x1),some (1,wK x1))]
def qX5 (k:Int) (m:qO):FP:=[(0,some (1,codes .own m.codes),some (1,codes .own (mks qIa qNg k m.codes))),(1,some (4,cores .own m.cores),some (4,cores .own (mks qSk qR5 (k+pO qIa m.codes) m.cores))),(2,some (1,dS .own m.mem.cells),some (1,dS .own (mks qOp qL3 (k+pO qIa m.codes+pO qSk m.cores) m.mem.cells))),(3,some (2,jB m.tr),some (2,jB (mks qY6 qR4 (k+pO qIa m.codes+pO qSk m.cores+pO qOp m.mem.cells) m.tr)))]
attribute [go_sem] qX5
attribute [simp] qX5
theorem qRp {caps:List Int} {x:Ins} {f:Int} {starts:List Int} (h:jR x starts.length caps.length=true) (hb:qT x.op 5 9=true→¬base caps x.n<0):((tD caps x f starts).length:Int)=wE x:=by
 have ho:=(nL h).1
 unfold tD wE
 rw [if_pos h]
 split
 ·rename_i hw
  rw [if_neg (hb hw)]
  rw [qK] at hw
  have hc:x.op=5∨x.op=6∨x.op=7∨x.op=8∨x.op=9:=by omega
  rcases hc with hc | hc | hc | hc | hc<;>simp [hc,cW,rZ,rP,lP,mK,pB]
 ·rename_i hw
  have hw :¬(5≤x.op∧x.op≤9):=fun e=>hw (qK.2 e)
  rw [if_neg (by omega),if_neg (by omega),if_neg (by omega),if_neg (by omega),if_neg (by omega),ho]
  simp [uK]
theorem qUh {caps:List Int} {x:Ins} {f:Int} {starts:List Int} {j:Nat} (h:jR x starts.length caps.length=true) (h8:((tD caps x f starts).getD j default).op=8):wE x≠1:=by
 have ho:=(nL h).1
 unfold tD at h8
 rw [if_pos h] at h8
 unfold wE
 split at h8
 ·rename_i hw
  rw [qK] at hw
  have hc:x.op=5∨x.op=6∨x.op=7∨x.op=8∨x.op=9:=by omega
  rcases hc with hc | hc | hc | hc | hc<;>simp [hc]
 ·exfalso
  cases j with
  | zero =>
   simp only [List.getD_cons_zero] at h8
   unfold single at h8
   repeat' split at h8
   all_goals (simp at h8)
  | succ j =>
   simp [qZa] at h8
   exact absurd h8 (by decide)
theorem qF7 {b:List Ins} {n:Nat} (h:wJ b n=true) (i:Nat) (hi:i<b.length):jR (b.getD i default) b.length n=true:=by
 unfold wJ at h
 simp only [qZ8,List.all_eq_true] at h
 exact h.1.2 _ (yL b i default hi)
theorem qL6 {caps:List Int} (hl:zQ caps=true) {n:Int} (h:0≤n∧n<caps.length) :¬base caps n<0:=by
 unfold base
 have hw:qT n 0 ((caps.length:Int)-1)=true:=by rw [qK]; omega
 rw [hl,hw]
 unfold zQ at hl
 simp only [qZ8] at hl
 have:=kT hl.1 n.toNat
 simp only [Bool.and_self,if_true]
 omega
theorem qCw {caps:List Int} {b:List Ins} (hb:wJ b caps.length=true) (hl:zQ caps=true) (i:Nat) (hi:i<b.length) (f:Int):((tD caps (b.getD i default) f (gQ b)).length:Int)=wE (b.getD i default):=by
 have h:=qF7 hb i hi
 refine qRp (by rw [gQ,xW]; exact h) fun hw=>qL6 hl ?_
 exact qNq h hw
theorem lO {caps:List Int} {b:List Ins} (hb:wJ b caps.length=true) (hl:zQ caps=true) :∀i,i≤b.length→((aL caps b i).length:Int)=szB (b.take i)
 | 0,_=>by simp [aL,szB]
 | i+1,hi=>by
  have:=lO hb hl i (by omega)
  have:=qCw hb hl i (by omega) (szB (b.take i))
  rw [mI b i (by omega)]
  simp only [aL,qZo]
  omega
theorem qLw {caps:List Int} {b:List Ins} (hb:wJ b caps.length=true) (hl:zQ caps=true) :∀(n:Nat),n≤b.length→∀at_:Nat,at_<(aL caps b n).length→
  ∃i,i<n∧szB (b.take i)≤at_∧(at_:Int)<szB (b.take (i+1))∧(((aL caps b n).getD at_ default).op=8→wE (b.getD i default)≠1)
 | 0,_,at_,h=>by simp [aL] at h
 | n+1,hn,at_,h=>by
  by_cases hc:at_<(aL caps b n).length
  ·obtain ⟨i,h1,h2,h3,h4⟩:=qLw hb hl n (by omega) at_ hc
   refine ⟨i,by omega,h2,h3,fun h8=>h4 ?_⟩
   rw [←h8,aL,qZa,qZa,List.getElem?_append_left hc]
  ·have hs:=lO hb hl n (by omega)
   have he:=qCw hb hl n (by omega) (szB (b.take n))
   have hz:=mI b n (by omega)
   simp only [aL,qZo] at h
   refine ⟨n,by omega,by omega,by omega,fun h8=>?_⟩
   rw [aL,qZa,List.getElem?_append_right (by omega),←qZa] at h8
   exact qUh (by rw [gQ,xW]; exact qF7 hb n (by omega)) h8
theorem qDw :∀(b:List Ins) (off k at_:Int) (i:Nat),i<b.length→off+szB (b.take i)≤at_→at_<off+szB (b.take (i+1))→(dK b off k at_).1=k+i
 | [],_,_,_,i,h,_,_=>by simp at h
 | x::l,off,k,at_,0,_,h1,h2=>by
  simp only [List.take_zero,szB,wB6] at h1 h2
  unfold dK
  rw [if_pos (by omega)]
  simp
 | x::l,off,k,at_,i+1,h,h1,h2=>by
  simp only [wB6,szB] at h1 h2
  have hl:=(qIi (l.take i)).1
  unfold dK
  rw [if_neg (by omega)]
  rw [qDw l (off+wE x) (k+1) at_ i (by simpa using h) (by omega) (by omega)]
  push_cast
  omega
theorem qWp {caps:List Int} {b:List Ins} (hb:wJ b caps.length=true) (hl:zQ caps=true) {at_:Int} (h0:0≤at_) (h1:at_<((comp caps b).length:Int)) :
  0≤(dK b 0 0 at_).1∧(dK b 0 0 at_).1.toNat<b.length∧(((comp caps b).getD at_.toNat default).op=8→wE (b.getD (dK b 0 0 at_).1.toNat default)≠1):=by
 obtain ⟨i,g1,g2,g3,g4⟩:=qLw hb hl b.length (Nat.le_refl _) at_.toNat (by unfold comp at h1; omega)
 have hp:=qDw b 0 0 at_ i g1 (by omega) (by omega)
 rw [hp]
 have e:((0:Int)+(i:Int)).toNat=i:=by omega
 rw [e]
 exact ⟨by omega,g1,g4⟩
def kH (p:wT) (s:yU) (regs:List Int) (who at_:Int):Bool :=
 decide (who<p.bods.length)&&decide (0≤(dK (p.bods.getD who.toNat []) 0 0 at_).1) &&
  ((decide (s.op=8)&&qT s.r 0 (regs.length-1)&&decide (regs.getD s.r.toNat 0=0))||decide (wE ((p.bods.getD who.toNat []).getD (dK (p.bods.getD who.toNat []) 0 0 at_).1.toNat default)=1))
def did (p:wT) (m:qO) (x:qCj):Bool:=decide ((yV m x).2=0)&&kH p (qN m x.who.toNat) (qI (yV m x).1 x.who.toNat).regs x.who (qI m x.who.toNat).at_
def tX (p:wT):qO→List qCj→List Int
 | _,[]=>[]
 | m,x::l=>(if did p m x then [x.who] else [])++tX p (yV m x).1 l
attribute [go_sem] fK qX3 qX2
attribute [simp] fK qX3 qX2
theorem zU {s:yU} {n:Int} (h:qA0 s n=true):0≤s.r∧s.r≤7∧0≤s.b∧s.b≤7∧1≤s.op∧s.op≤13∧((0≤s.a∧s.a≤7)∨((s.op=5∨s.op=6∨s.op=7)∧s.a=-1)):=by
 unfold qA0 at h
 simp only [qZ8,qK,Bool.or_eq_true,decide_eq_true_eq] at h
 obtain ⟨⟨⟨h1,h2⟩,h3⟩,h4⟩:=h
 have:1≤s.op∧s.op≤13:=by
  repeat' split at h4
  all_goals (first | omega | simp at h4)
 omega
@[simp] def qYp (m:qO):AV:=.agg [.ns 0 0 m.codes.length,.ns 1 0 m.cores.length,.ns 2 0 m.mem.cells.length,.ns 3 0 m.tr.length]
@[simp] def qYs (m:qO):FP:=[(0,some (1,codes .own m.codes),none),(1,some (4,cores .own m.cores),none),(2,some (1,dS .own m.mem.cells),none),(3,some (2,jB m.tr),none)]
@[simp] def qYq (m:qO):FP:=[(0,some (1,codes .own m.codes),some (1,codes .own m.codes)),(1,some (4,cores .own m.cores),some (4,cores .own m.cores)),(2,some (1,dS .own m.mem.cells),some (1,dS .own m.mem.cells)),(3,some (2,jB m.tr),some (2,jB m.tr))]
attribute [go_sem] qYs qYp qYq
def qY9 (p:wT) (M:qO) (i:Nat):Bool:=decide ((qI M i).st=0)&&!qWv p M i
def rst (p:wT) (i:Nat):Nat→qO→qO
 | 0,M=>M
 | n+1,M=>if qY9 p M i then rst p i n (yV M ⟨i,0⟩).1 else M
def qYl (p:wT) (l:List Nat) (M:qO):qO:=l.foldl (fun M i=>rst p i 40 M) M
def w00:wY:=⟨0,z24⟩
def qYo:List (List wY):=qZ2 24 [w00]
def z8:List Int:=qZ2 8 0
@[simp] theorem qYk:z8.length=8:=rfl
def k00:uE:=⟨0,z8,z24,0⟩
def qPi (l:List (List yU)):qO:=⟨l,qZ2 l.length k00,⟨qYo⟩,[]⟩
attribute [simp] qPi
attribute [go_sem] qPi
theorem qH0 (f:Nat→Nat) (l:List bS):xZ f (jB l)=jB l:=aW f _ ((uV l).2 trivial)
theorem qQx {A:Nat→Prop} (l:List bS):okR A (jB l)↔True:=by simp [aC _ ((uV l).2 trivial)]
theorem qGi (f:Nat→Nat) (l:List yU):xZ f (gB l)=gB l:=aW f _ ((cO l).2 trivial)
theorem qQf {A:Nat→Prop} (l:List yU):okR A (gB l)↔True:=by simp [aC _ ((cO l).2 trivial)]
attribute [go_sem] qH0 qGi
attribute [simp] qH0 qGi qQx qQf
@[simp] def qYr (m:qO) (j:Nat):FP:=[(0,some (1,(codes .own m.codes).set j [.ns 4 0 (m.codes.getD j []).length]),some (1,(codes .own m.codes).set j [.ns 4 0 (m.codes.getD j []).length])),(1,some (4,cores .own m.cores),some (4,cores .own m.cores)),(2,some (1,dS .own m.mem.cells),some (1,dS .own m.mem.cells)),(3,some (2,jB m.tr),some (2,jB m.tr)),(4,some (5,gB (m.codes.getD j [])),some (5,gB (m.codes.getD j [])))]
attribute [go_sem] qYr
def jG (cs:List (List wY)) (c:Nat):Int:=((cs.getD c []).getD ((cs.getD c []).length-1) default).v
def qPd:jN:=⟨0,[],false⟩
def qLz (cs:List (List wY)) (b:Nat) (room f:Int) (k:Nat):List Int:=(List.range k).map fun (i:Nat)=>jG cs (b+4+((f+(i:Int))%room).toNat)
theorem qJn (cs:List (List wY)) (b:Nat) (room f:Int) (k:Nat):(qLz cs b room f k).length=k:=by simp [qLz]
def qO4 (cs:List (List wY)) (b:Nat) (room:Int):jN×Bool :=
 if qT (jG cs (b+1)) 0 (room-1)&&qT (jG cs (b+2)) 0 room&&qT (jG cs (b+3)) 0 1 then
  (⟨room,qLz cs b room (jG cs (b+1)) (jG cs (b+2)).toNat,decide (jG cs (b+3)=1)⟩,true)
 else (qPd,false)
def qAu (cs:List (List wY)) (caps:List Int) (n:Int):jN×Bool :=
 if !decide (base caps n<0)&&nC cs then qO4 cs (base caps n).toNat (caps.getD n.toNat 0) else (qPd,false)
def qCt (cs:List (List wY)) (caps:List Int) (n:Int):Bool:=decide (0≤base caps n)&&nC cs&&!decide (jG cs (base caps n).toNat=0)
theorem gT {p:wT} (h:jF p=true):qY p (yG p).1=true:=by
 have hp:=h
 simp only [jF,zA,qZ8,decide_eq_true_eq] at hp
 obtain ⟨⟨⟨hb,_⟩,hc⟩,_⟩:=hp
 rw [yW]
 simp only [yG,h,if_true]
 refine ⟨?_,?_,?_,?_,fun i hi=>?_,fun j hj=>?_⟩
 any_goals (first | exact h | (simp; done) | (simp [zK]; done))
 ·have hi':i<p.bods.length:=by simpa using hi
  have hg:(qZ2 p.bods.length zH).getD i default=zH:=by simp [qZa,hi']
  have h2:=List.all_eq_true.1 hb _ (yL p.bods i [] hi')
  simp only [wJ,qZ8,qK] at h2
  rw [hg]
  simp only [vP,zH,qZ8,decide_eq_true_eq,qK]
  refine ⟨⟨rfl,by omega⟩,by omega⟩
 ·have hj':j<p.caps.length:=by simpa using hj
  have hg:(p.caps.map fun c=>(⟨c,[],false⟩:jN)).getD j default=⟨p.caps.getD j 0,[],false⟩:=by simp [qZa,hj']
  rw [hg]
  have h2:=List.all_eq_true.1 hc _ (yL p.caps j 0 hj')
  refine ⟨?_,rfl⟩
  simp only [jJ,h2,Bool.true_and,decide_eq_true_eq]
  rw [qK] at h2
  simp [-qZa]
  omega
theorem qGn {p:wT} (h:jF p=true):iO p:=by
 simp only [jF,qZ8,decide_eq_true_eq,qK] at h
 obtain ⟨⟨⟨hb,h1⟩,_⟩,h2⟩:=h
 refine ⟨by omega,by omega,fun b hb'=>?_⟩
 have:=List.all_eq_true.1 hb b hb'
 simp only [wJ,qZ8,qK] at this
 omega
end Go.Sep
