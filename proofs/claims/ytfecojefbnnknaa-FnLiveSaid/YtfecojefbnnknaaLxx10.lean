/- Contracts of functions. -/
import Derived.Test.YtfecojefbnnknaaLxx9
open Bool renaming and_eq_true → qZu
open List renaming getD_eq_getElem?_getD → qZw, length_append → wAa, replicate → qZo, take_succ_cons → wBs
namespace Go.Sep
set_option maxHeartbeats 16000000
open Go.Proofs
set_option linter.unusedSimpArgs false
set_option linter.unusedVariables false
set_option maxRecDepth 100000
def m98:MFn:=⟨10,[.t 4],kr [xI 4 0] (.seq (kr [xv 5 0,xv 6 1,bT 7 .gtr 5 6] (kF 7 [xv 8 0,xv 4 8])) (kR [xv 9 1,xv 4 9]))⟩
def qWr:qR→List qCv→qR
 | m,[]=>m
 | m,x::l=>qWr (yX m x).1 l
theorem qI2 (f:Nat→Nat) (l:List uF):aE f (cores .own l)=cores .own l:=eA f _ ((tM l).2 trivial)
theorem qSg {A:Nat→Prop} (l:List uF):okR A (cores .own l)↔True:=by simp [aG _ ((tM l).2 trivial)]
theorem qSf {A:Nat→Prop} (l:List uF) (i:Nat) (r:List AV) (h:okL A r):okR A ((cores .own l).set i r):=sL _ _ _ (aG _ ((tM l).2 trivial)) h
theorem qMm (f:Nat→Nat) (l:List (List wZ)):aE f (dV .own l)=dV .own l:=eA f _ ((tR l).2 trivial)
theorem qVk {A:Nat→Prop} (l:List (List wZ)):okR A (dV .own l)↔True:=by simp [aG _ ((tR l).2 trivial)]
theorem qVj {A:Nat→Prop} (l:List (List wZ)) (i:Nat) (r:List AV) (h:okL A r):okR A ((dV .own l).set i r):=sL _ _ _ (aG _ ((tR l).2 trivial)) h
theorem qI4 (f:Nat→Nat) (l:List (List yV)):aE f (codes .own l)=codes .own l:=eA f _ ((fB l).2 trivial)
theorem qSm {A:Nat→Prop} (l:List (List yV)):okR A (codes .own l)↔True:=by simp [aG _ ((fB l).2 trivial)]
theorem qSl {A:Nat→Prop} (l:List (List yV)) (i:Nat) (r:List AV) (h:okL A r):okR A ((codes .own l).set i r):=sL _ _ _ (aG _ ((fB l).2 trivial)) h
theorem qDe (f:Nat→Nat) (l:List wZ):aE f (vW .own l)=vW .own l:=eA f _ ((cF l).2 trivial)
theorem qN6 {A:Nat→Prop} (l:List wZ):okR A (vW .own l)↔True:=by simp [aG _ ((cF l).2 trivial)]
theorem qN5 {A:Nat→Prop} (l:List wZ) (i:Nat) (r:List AV) (h:okL A r):okR A ((vW .own l).set i r):=sL _ _ _ (aG _ ((cF l).2 trivial)) h
theorem qM6 (f:Nat→Nat) (l:List Int):aE f (wC l)=wC l:=eA f _ ((vZ l).2 trivial)
theorem qUl {A:Nat→Prop} (l:List Int):okR A (wC l)↔True:=by simp [aG _ ((vZ l).2 trivial)]
attribute [go_sem] aF aE qE0 qI2 qMm qI4 qDe qM6
attribute [simp] aF aE qE0 qI2 qMm qI4 qDe qM6 okR qSg qVk qSm qN6 qUl qSf qVj qSl qN5
theorem qS3 (a b:Int):wD Try.prog num 98 [.int .i64 a,.int .i64 b] [] (.int .i64 (max a b)):=by
 refine EN m98 Try.func97 ?_
 unfold m98
 by_cases h:b<a
 ·simp only [go_sem,seval,h]
  refine fz ?_; simp [yL,wM,wL,wR,-List.drop_one]
  omega
 ·simp only [go_sem,seval,h]
  refine fz ?_; simp [yL,wM,wL,wR,-List.drop_one]
  omega
def fI (cds:List (List yV)) (n1:Nat) (cs cs':List (List wZ)) (tr:List bK) (R:List (List AV)) (v:List Int):FP :=
 [(0,some (4,[[.sl .own 1 (codes .own cds),.ns 1 0 n1,.sl .own 1 (dV .own cs),.sl .own 2 (yT tr)]]),some (4,[[.sl .own 1 (codes .own cds),.ns 1 0 n1,.sl .own 1 (dV .own cs'),.sl .own 2 (yT tr)]])),
  (1,some (4,R),some (4,R)),(2,some (1,wC v),some (1,wC v))]
def z24:List Int:=qZo 24 0
@[simp] theorem qZ3:z24.length=24:=rfl
def qXp (cds:List (List yV)) (n1:Nat) (cs cs':List (List wZ)) (tr:List bK) (R:List (List AV)) (v x0:List Int):FP:=fI cds n1 cs cs' tr R v++[(3,some (1,wC x0),some (1,wC x0))]
def qXo (cds:List (List yV)) (n1:Nat) (cs cs':List (List wZ)) (tr:List bK) (R:List (List AV)) (v x0 x1:List Int):FP:=fI cds n1 cs cs' tr R v++[(3,some (1,wC x0),some (1,wC x0)),(4,some (1,wC x1),some (1,wC x1))]
def qXr (k:Int) (m:qR):FP:=[(0,some (1,codes .own m.codes),some (1,codes .own (mks qIp qNy k m.codes))),(1,some (4,cores .own m.cores),some (4,cores .own (mks qT5 qRv (k+pQ qIp m.codes) m.cores))),(2,some (1,dV .own m.mem.cells),some (1,dV .own (mks qP6 qLp (k+pQ qIp m.codes+pQ qT5 m.cores) m.mem.cells))),(3,some (2,yT m.tr),some (2,yT (mks qYr qRu (k+pQ qIp m.codes+pQ qT5 m.cores+pQ qP6 m.mem.cells) m.tr)))]
attribute [go_sem] qXr
attribute [simp] qXr
theorem qSc {caps:List Int} {x:Ins} {f:Int} {starts:List Int} (h:jE x starts.length caps.length=true) (hb:qV x.op 5 9=true→¬base caps x.n<0):((tJ caps x f starts).length:Int)=wI x:=by
 have ho:=(nI h).1
 unfold tJ wI
 rw [if_pos h]
 split
 ·rename_i hw
  rw [if_neg (hb hw)]
  rw [qK] at hw
  have hc:x.op=5∨x.op=6∨x.op=7∨x.op=8∨x.op=9:=by omega
  rcases hc with hc | hc | hc | hc | hc<;>simp [hc,cW,sD,rU,lI,mD,oZ]
 ·rename_i hw
  have hw :¬(5≤x.op∧x.op≤9):=fun e=>hw (qK.2 e)
  rw [if_neg (by omega),if_neg (by omega),if_neg (by omega),if_neg (by omega),if_neg (by omega),ho]
  simp [uN]
theorem qUx {caps:List Int} {x:Ins} {f:Int} {starts:List Int} {j:Nat} (h:jE x starts.length caps.length=true) (h8:((tJ caps x f starts).getD j default).op=8):wI x≠1:=by
 have ho:=(nI h).1
 unfold tJ at h8
 rw [if_pos h] at h8
 unfold wI
 split at h8
 ·rename_i hw
  rw [qK] at hw
  have hc:x.op=5∨x.op=6∨x.op=7∨x.op=8∨x.op=9:=by omega
  rcases hc with hc | hc | hc | hc | hc<;>simp [hc]
 ·exfalso
  cases j with
  | zero =>
   simp only [List.getD_cons_zero] at h8
   unfold single at h8
   repeat' split at h8
   all_goals (simp at h8)
  | succ j =>
   simp [qZw] at h8
   exact absurd h8 (by decide)
theorem qFl {b:List Ins} {n:Nat} (h:wJ b n=true) (i:Nat) (hi:i<b.length):jE (b.getD i default) b.length n=true:=by
 unfold wJ at h
 simp only [qZu,List.all_eq_true] at h
 exact h.1.2 _ (yO b i default hi)
theorem qLt {caps:List Int} (hl:zU caps=true) {n:Int} (h:0≤n∧n<caps.length) :¬base caps n<0:=by
 unfold base
 have hw:qV n 0 ((caps.length:Int)-1)=true:=by rw [qK]; omega
 rw [hl,hw]
 unfold zU at hl
 simp only [qZu] at hl
 have:=kK hl.1 n.toNat
 simp only [Bool.and_self,if_true]
 omega
theorem qD9 {caps:List Int} {b:List Ins} (hb:wJ b caps.length=true) (hl:zU caps=true) (i:Nat) (hi:i<b.length) (f:Int):((tJ caps (b.getD i default) f (gX b)).length:Int)=wI (b.getD i default):=by
 have h:=qFl hb i hi
 refine qSc (by rw [gX,aB]; exact h) fun hw=>qLt hl ?_
 exact qO9 h hw
theorem lH {caps:List Int} {b:List Ins} (hb:wJ b caps.length=true) (hl:zU caps=true) :∀i,i≤b.length→((aO caps b i).length:Int)=szB (b.take i)
 | 0,_=>by simp [aO,szB]
 | i+1,hi=>by
  have:=lH hb hl i (by omega)
  have:=qD9 hb hl i (by omega) (szB (b.take i))
  rw [mB b i (by omega)]
  simp only [aO,wAa]
  omega
theorem qMi {caps:List Int} {b:List Ins} (hb:wJ b caps.length=true) (hl:zU caps=true) :∀(n:Nat),n≤b.length→∀at_:Nat,at_<(aO caps b n).length→
  ∃i,i<n∧szB (b.take i)≤at_∧(at_:Int)<szB (b.take (i+1))∧(((aO caps b n).getD at_ default).op=8→wI (b.getD i default)≠1)
 | 0,_,at_,h=>by simp [aO] at h
 | n+1,hn,at_,h=>by
  by_cases hc:at_<(aO caps b n).length
  ·obtain ⟨i,h1,h2,h3,h4⟩:=qMi hb hl n (by omega) at_ hc
   refine ⟨i,by omega,h2,h3,fun h8=>h4 ?_⟩
   rw [←h8,aO,qZw,qZw,List.getElem?_append_left hc]
  ·have hs:=lH hb hl n (by omega)
   have he:=qD9 hb hl n (by omega) (szB (b.take n))
   have hz:=mB b n (by omega)
   simp only [aO,wAa] at h
   refine ⟨n,by omega,by omega,by omega,fun h8=>?_⟩
   rw [aO,qZw,List.getElem?_append_right (by omega),←qZw] at h8
   exact qUx (by rw [gX,aB]; exact qFl hb n (by omega)) h8
theorem qE7 :∀(b:List Ins) (off k at_:Int) (i:Nat),i<b.length→off+szB (b.take i)≤at_→at_<off+szB (b.take (i+1))→(dK b off k at_).1=k+i
 | [],_,_,_,i,h,_,_=>by simp at h
 | x::l,off,k,at_,0,_,h1,h2=>by
  simp only [List.take_zero,szB,wBs] at h1 h2
  unfold dK
  rw [if_pos (by omega)]
  simp
 | x::l,off,k,at_,i+1,h,h1,h2=>by
  simp only [wBs,szB] at h1 h2
  have hl:=(qIx (l.take i)).1
  unfold dK
  rw [if_neg (by omega)]
  rw [qE7 l (off+wI x) (k+1) at_ i (by simpa using h) (by omega) (by omega)]
  push_cast
  omega
theorem qXb {caps:List Int} {b:List Ins} (hb:wJ b caps.length=true) (hl:zU caps=true) {at_:Int} (h0:0≤at_) (h1:at_<((comp caps b).length:Int)) :
  0≤(dK b 0 0 at_).1∧(dK b 0 0 at_).1.toNat<b.length∧(((comp caps b).getD at_.toNat default).op=8→wI (b.getD (dK b 0 0 at_).1.toNat default)≠1):=by
 obtain ⟨i,g1,g2,g3,g4⟩:=qMi hb hl b.length (Nat.le_refl _) at_.toNat (by unfold comp at h1; omega)
 have hp:=qE7 b 0 0 at_ i g1 (by omega) (by omega)
 rw [hp]
 have e:((0:Int)+(i:Int)).toNat=i:=by omega
 rw [e]
 exact ⟨by omega,g1,g4⟩
def iY (p:wU) (s:yV) (regs:List Int) (who at_:Int):Bool :=
 decide (who<p.bods.length)&&decide (0≤(dK (p.bods.getD who.toNat []) 0 0 at_).1) &&
  ((decide (s.op=8)&&qV s.r 0 (regs.length-1)&&decide (regs.getD s.r.toNat 0=0))||decide (wI ((p.bods.getD who.toNat []).getD (dK (p.bods.getD who.toNat []) 0 0 at_).1.toNat default)=1))
def did (p:wU) (m:qR) (x:qCv):Bool:=decide ((yX m x).2=0)&&iY p (qQ m x.who.toNat) (qI (yX m x).1 x.who.toNat).regs x.who (qI m x.who.toNat).at_
def qA2 (p:wU):qR→List qCv→List Int
 | _,[]=>[]
 | m,x::l=>(if did p m x then [x.who] else [])++qA2 p (yX m x).1 l
attribute [go_sem] fI qXp qXo
attribute [simp] fI qXp qXo
theorem zZ {s:yV} {n:Int} (h:qA5 s n=true):0≤s.r∧s.r≤7∧0≤s.b∧s.b≤7∧1≤s.op∧s.op≤13∧((0≤s.a∧s.a≤7)∨((s.op=5∨s.op=6∨s.op=7)∧s.a=-1)):=by
 unfold qA5 at h
 simp only [qZu,qK,Bool.or_eq_true,decide_eq_true_eq] at h
 obtain ⟨⟨⟨h1,h2⟩,h3⟩,h4⟩:=h
 have:1≤s.op∧s.op≤13:=by
  repeat' split at h4
  all_goals (first | omega | simp at h4)
 omega
@[simp] def qZc (m:qR):AV:=.agg [.ns 0 0 m.codes.length,.ns 1 0 m.cores.length,.ns 2 0 m.mem.cells.length,.ns 3 0 m.tr.length]
@[simp] def qZf (m:qR):FP:=[(0,some (1,codes .own m.codes),none),(1,some (4,cores .own m.cores),none),(2,some (1,dV .own m.mem.cells),none),(3,some (2,yT m.tr),none)]
@[simp] def qZd (m:qR):FP:=[(0,some (1,codes .own m.codes),some (1,codes .own m.codes)),(1,some (4,cores .own m.cores),some (4,cores .own m.cores)),(2,some (1,dV .own m.mem.cells),some (1,dV .own m.mem.cells)),(3,some (2,yT m.tr),some (2,yT m.tr))]
attribute [go_sem] qZf qZc qZd
def qYu (p:wU) (M:qR) (i:Nat):Bool:=decide ((qI M i).st=0)&&!qXg p M i
def rst (p:wU) (i:Nat):Nat→qR→qR
 | 0,M=>M
 | n+1,M=>if qYu p M i then rst p i n (yX M ⟨i,0⟩).1 else M
def qZ8 (p:wU) (l:List Nat) (M:qR):qR:=l.foldl (fun M i=>rst p i 40 M) M
def w00:wZ:=⟨0,z24⟩
def qZb:List (List wZ):=qZo 24 [w00]
def z8:List Int:=qZo 8 0
@[simp] theorem qZ7:z8.length=8:=rfl
def k00:uF:=⟨0,z8,z24,0⟩
def qQ0 (l:List (List yV)):qR:=⟨l,qZo l.length k00,⟨qZb⟩,[]⟩
attribute [simp] qQ0
attribute [go_sem] qQ0
theorem qHg (f:Nat→Nat) (l:List bK):aE f (yT l)=yT l:=eA f _ ((uY l).2 trivial)
theorem qRm {A:Nat→Prop} (l:List bK):okR A (yT l)↔True:=by simp [aG _ ((uY l).2 trivial)]
theorem qGz (f:Nat→Nat) (l:List yV):aE f (gI l)=gI l:=eA f _ ((cO l).2 trivial)
theorem qQx {A:Nat→Prop} (l:List yV):okR A (gI l)↔True:=by simp [aG _ ((cO l).2 trivial)]
attribute [go_sem] qHg qGz
attribute [simp] qHg qGz qRm qQx
@[simp] def qZe (m:qR) (j:Nat):FP:=[(0,some (1,(codes .own m.codes).set j [.ns 4 0 (m.codes.getD j []).length]),some (1,(codes .own m.codes).set j [.ns 4 0 (m.codes.getD j []).length])),(1,some (4,cores .own m.cores),some (4,cores .own m.cores)),(2,some (1,dV .own m.mem.cells),some (1,dV .own m.mem.cells)),(3,some (2,yT m.tr),some (2,yT m.tr)),(4,some (5,gI (m.codes.getD j [])),some (5,gI (m.codes.getD j [])))]
attribute [go_sem] qZe
def jH (cs:List (List wZ)) (c:Nat):Int:=((cs.getD c []).getD ((cs.getD c []).length-1) default).v
def qPv:jS:=⟨0,[],false⟩
def qMl (cs:List (List wZ)) (b:Nat) (room f:Int) (k:Nat):List Int:=(List.range k).map fun (i:Nat)=>jH cs (b+4+((f+(i:Int))%room).toNat)
theorem qK4 (cs:List (List wZ)) (b:Nat) (room f:Int) (k:Nat):(qMl cs b room f k).length=k:=by simp [qMl]
def qOm (cs:List (List wZ)) (b:Nat) (room:Int):jS×Bool :=
 if qV (jH cs (b+1)) 0 (room-1)&&qV (jH cs (b+2)) 0 room&&qV (jH cs (b+3)) 0 1 then
  (⟨room,qMl cs b room (jH cs (b+1)) (jH cs (b+2)).toNat,decide (jH cs (b+3)=1)⟩,true)
 else (qPv,false)
def qB4 (cs:List (List wZ)) (caps:List Int) (n:Int):jS×Bool :=
 if !decide (base caps n<0)&&mY cs then qOm cs (base caps n).toNat (caps.getD n.toNat 0) else (qPv,false)
def qD6 (cs:List (List wZ)) (caps:List Int) (n:Int):Bool:=decide (0≤base caps n)&&mY cs&&!decide (jH cs (base caps n).toNat=0)
theorem aC {p:wU} (h:vC p=true):qY p (jR p).1=true:=by
 have hp:=h
 simp only [vC,zC,qZu,decide_eq_true_eq] at hp
 obtain ⟨⟨⟨hb,_⟩,hc⟩,_⟩:=hp
 rw [yS]
 simp only [jR,h,if_true]
 refine ⟨?_,?_,?_,?_,fun i hi=>?_,fun j hj=>?_⟩
 any_goals (first | exact h | (simp; done) | (simp [zO]; done))
 ·have hi':i<p.bods.length:=by simpa using hi
  have hg:(qZo p.bods.length zL).getD i default=zL:=by simp [qZw,hi']
  have h2:=List.all_eq_true.1 hb _ (yO p.bods i [] hi')
  simp only [wJ,qZu,qK] at h2
  rw [hg]
  simp only [jZ,zL,qZu,decide_eq_true_eq,qK]
  refine ⟨⟨rfl,by omega⟩,by omega⟩
 ·have hj':j<p.caps.length:=by simpa using hj
  have hg:(p.caps.map fun c=>(⟨c,[],false⟩:jS)).getD j default=⟨p.caps.getD j 0,[],false⟩:=by simp [qZw,hj']
  rw [hg]
  have h2:=List.all_eq_true.1 hc _ (yO p.caps j 0 hj')
  refine ⟨?_,rfl⟩
  simp only [jM,h2,Bool.true_and,decide_eq_true_eq]
  rw [qK] at h2
  simp [-qZw]
  omega
theorem qR4 {p:wU} (h:vC p=true):rJ p:=by
 simp only [vC,qZu,decide_eq_true_eq,qK] at h
 obtain ⟨⟨⟨hb,h1⟩,_⟩,h2⟩:=h
 refine ⟨by omega,by omega,fun b hb'=>?_⟩
 have:=List.all_eq_true.1 hb b hb'
 simp only [wJ,qZu,qK] at this
 omega
end Go.Sep
