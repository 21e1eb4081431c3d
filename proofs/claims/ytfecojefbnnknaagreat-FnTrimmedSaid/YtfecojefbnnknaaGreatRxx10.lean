/- Contracts of functions. -/
import Derived.Test.YtfecojefbnnknaaGreatRxx9
open Bool renaming and_eq_true → wBp
open List renaming getD_eq_getElem?_getD → wBr, length_append → wC5, replicate → wBj, take_succ_cons → wDn
namespace Go.Sep
set_option maxHeartbeats 16000000
open Go.Proofs
set_option linter.unusedSimpArgs false
set_option linter.unusedVariables false
set_option maxRecDepth 100000
def m98:MFn:=⟨10,[.t 4],kr [xI 4 0] (.seq (kr [xv 5 0,xv 6 1,bT 7 .gtr 5 6] (kF 7 [xv 8 0,xv 4 8])) (kR [xv 9 1,xv 4 9]))⟩
def qYl:qT→List qDz→qT
 | m,[]=>m
 | m,x::l=>qYl (jD m x).1 l
theorem qJo (f:Nat→Nat) (l:List uL):aN f (cores .own l)=cores .own l:=eM f _ ((qAv l).2 trivial)
theorem qUd {A:Nat→Prop} (l:List uL):okR A (cores .own l)↔True:=by simp [aQ _ ((qAv l).2 trivial)]
theorem qUc {A:Nat→Prop} (l:List uL) (i:Nat) (r:List AV) (h:okL A r):okR A ((cores .own l).set i r):=qA8 _ _ _ (aQ _ ((qAv l).2 trivial)) h
theorem qOk (f:Nat→Nat) (l:List (List wZ)):aN f (zC .own l)=zC .own l:=eM f _ ((qB0 l).2 trivial)
theorem qXg {A:Nat→Prop} (l:List (List wZ)):okR A (zC .own l)↔True:=by simp [aQ _ ((qB0 l).2 trivial)]
theorem qXf {A:Nat→Prop} (l:List (List wZ)) (i:Nat) (r:List AV) (h:okL A r):okR A ((zC .own l).set i r):=qA8 _ _ _ (aQ _ ((qB0 l).2 trivial)) h
theorem qJq (f:Nat→Nat) (l:List (List jB)):aN f (codes .own l)=codes .own l:=eM f _ ((fY l).2 trivial)
theorem qUj {A:Nat→Prop} (l:List (List jB)):okR A (codes .own l)↔True:=by simp [aQ _ ((fY l).2 trivial)]
theorem qUi {A:Nat→Prop} (l:List (List jB)) (i:Nat) (r:List AV) (h:okL A r):okR A ((codes .own l).set i r):=qA8 _ _ _ (aQ _ ((fY l).2 trivial)) h
theorem qEj (f:Nat→Nat) (l:List wZ):aN f (uA .own l)=uA .own l:=eM f _ ((cW l).2 trivial)
theorem qP9 {A:Nat→Prop} (l:List wZ):okR A (uA .own l)↔True:=by simp [aQ _ ((cW l).2 trivial)]
theorem qP8 {A:Nat→Prop} (l:List wZ) (i:Nat) (r:List AV) (h:okL A r):okR A ((uA .own l).set i r):=qA8 _ _ _ (aQ _ ((cW l).2 trivial)) h
theorem qNz (f:Nat→Nat) (l:List Int):aN f (wE l)=wE l:=eM f _ ((uF l).2 trivial)
theorem qWj {A:Nat→Prop} (l:List Int):okR A (wE l)↔True:=by simp [aQ _ ((uF l).2 trivial)]
attribute [go_sem] aO aN qF8 qJo qOk qJq qEj qNz
attribute [simp] aO aN qF8 qJo qOk qJq qEj qNz okR qUd qXg qUj qP9 qWj qUc qXf qUi qP8
theorem qU1 (a b:Int):qY Tryz.prog num 98 [.int .i64 a,.int .i64 b] [] (.int .i64 (max a b)):=by
 refine EN m98 Tryz.func137 ?_
 unfold m98
 by_cases h:b<a
 ·simp only [go_sem,seval,h]
  refine fz ?_; simp [yQ,wJ,wK,wR,-List.drop_one]
  omega
 ·simp only [go_sem,seval,h]
  refine fz ?_; simp [yQ,wJ,wK,wR,-List.drop_one]
  omega
def iB (cds:List (List jB)) (n1:Nat) (cs cs':List (List wZ)) (tr:List bP) (R:List (List AV)) (v:List Int):FP :=
 [(0,some (4,[[.sl .own 1 (codes .own cds),.ns 1 0 n1,.sl .own 1 (zC .own cs),.sl .own 2 (yY tr)]]),some (4,[[.sl .own 1 (codes .own cds),.ns 1 0 n1,.sl .own 1 (zC .own cs'),.sl .own 2 (yY tr)]])),
  (1,some (4,R),some (4,R)),(2,some (1,wE v),some (1,wE v))]
def z24:List Int:=wBj 24 0
@[simp] theorem wAy:z24.length=24:=rfl
def qZl (cds:List (List jB)) (n1:Nat) (cs cs':List (List wZ)) (tr:List bP) (R:List (List AV)) (v x0:List Int):FP:=iB cds n1 cs cs' tr R v++[(3,some (1,wE x0),some (1,wE x0))]
def qZk (cds:List (List jB)) (n1:Nat) (cs cs':List (List wZ)) (tr:List bP) (R:List (List AV)) (v x0 x1:List Int):FP:=iB cds n1 cs cs' tr R v++[(3,some (1,wE x0),some (1,wE x0)),(4,some (1,wE x1),some (1,wE x1))]
def qZn (k:Int) (m:qT):FP:=[(0,some (1,codes .own m.codes),some (1,codes .own (mks qKb qQ2 k m.codes))),(1,some (4,cores .own m.cores),some (4,cores .own (mks qV3 qTv (k+sI qKb m.codes) m.cores))),(2,some (1,zC .own m.mem.cells),some (1,zC .own (mks qRb qNg (k+sI qKb m.codes+sI qV3 m.cores) m.mem.cells))),(3,some (2,yY m.tr),some (2,yY (mks wAm qTu (k+sI qKb m.codes+sI qV3 m.cores+sI qRb m.mem.cells) m.tr)))]
attribute [go_sem] qZn
attribute [simp] qZn
theorem qUa {caps:List Int} {x:Ins} {f:Int} {starts:List Int} (h:jJ x starts.length caps.length=true) (hb:qW x.op 5 9=true→¬base caps x.n<0):((qAs caps x f starts).length:Int)=wL x:=by
 have ho:=(oX h).1
 unfold qAs wL
 rw [if_pos h]
 split
 ·rename_i hw
  rw [if_neg (hb hw)]
  rw [qL] at hw
  have hc:x.op=5∨x.op=6∨x.op=7∨x.op=8∨x.op=9:=by omega
  rcases hc with hc | hc | hc | hc | hc<;>simp [hc,fP,qA1,tR,mQ,nS,rQ]
 ·rename_i hw
  have hw :¬(5≤x.op∧x.op≤9):=fun e=>hw (qL.2 e)
  rw [if_neg (by omega),if_neg (by omega),if_neg (by omega),if_neg (by omega),if_neg (by omega),ho]
  simp [vV]
theorem qWu {caps:List Int} {x:Ins} {f:Int} {starts:List Int} {j:Nat} (h:jJ x starts.length caps.length=true) (h8:((qAs caps x f starts).getD j default).op=8):wL x≠1:=by
 have ho:=(oX h).1
 unfold qAs at h8
 rw [if_pos h] at h8
 unfold wL
 split at h8
 ·rename_i hw
  rw [qL] at hw
  have hc:x.op=5∨x.op=6∨x.op=7∨x.op=8∨x.op=9:=by omega
  rcases hc with hc | hc | hc | hc | hc<;>simp [hc]
 ·exfalso
  cases j with
  | zero =>
   simp only [List.getD_cons_zero] at h8
   unfold single at h8
   repeat' split at h8
   all_goals (simp at h8)
  | succ j =>
   simp [wBr] at h8
   exact absurd h8 (by decide)
theorem qGq {b:List Ins} {n:Nat} (h:wF b n=true) (i:Nat) (hi:i<b.length):jJ (b.getD i default) b.length n=true:=by
 unfold wF at h
 simp only [wBp,List.all_eq_true] at h
 exact h.1.2 _ (yB b i default hi)
theorem qNl {caps:List Int} (hl:xG caps=true) {n:Int} (h:0≤n∧n<caps.length) :¬base caps n<0:=by
 unfold base
 have hw:qW n 0 ((caps.length:Int)-1)=true:=by rw [qL]; omega
 rw [hl,hw]
 unfold xG at hl
 simp only [wBp] at hl
 have:=lT hl.1 n.toNat
 simp only [Bool.and_self,if_true]
 omega
theorem qEd {caps:List Int} {b:List Ins} (hb:wF b caps.length=true) (hl:xG caps=true) (i:Nat) (hi:i<b.length) (f:Int):((qAs caps (b.getD i default) f (dB b)).length:Int)=wL (b.getD i default):=by
 have h:=qGq hb i hi
 refine qUa (by rw [dB,aL]; exact h) fun hw=>qNl hl ?_
 exact qQd h hw
theorem mP {caps:List Int} {b:List Ins} (hb:wF b caps.length=true) (hl:xG caps=true) :∀i,i≤b.length→((aY caps b i).length:Int)=szB (b.take i)
 | 0,_=>by simp [aY,szB]
 | i+1,hi=>by
  have:=mP hb hl i (by omega)
  have:=qEd hb hl i (by omega) (szB (b.take i))
  rw [nQ b i (by omega)]
  simp only [aY,wC5]
  omega
theorem qOg {caps:List Int} {b:List Ins} (hb:wF b caps.length=true) (hl:xG caps=true) :∀(n:Nat),n≤b.length→∀at_:Nat,at_<(aY caps b n).length→
  ∃i,i<n∧szB (b.take i)≤at_∧(at_:Int)<szB (b.take (i+1))∧(((aY caps b n).getD at_ default).op=8→wL (b.getD i default)≠1)
 | 0,_,at_,h=>by simp [aY] at h
 | n+1,hn,at_,h=>by
  by_cases hc:at_<(aY caps b n).length
  ·obtain ⟨i,h1,h2,h3,h4⟩:=qOg hb hl n (by omega) at_ hc
   refine ⟨i,by omega,h2,h3,fun h8=>h4 ?_⟩
   rw [←h8,aY,wBr,wBr,List.getElem?_append_left hc]
  ·have hs:=mP hb hl n (by omega)
   have he:=qEd hb hl n (by omega) (szB (b.take n))
   have hz:=nQ b n (by omega)
   simp only [aY,wC5] at h
   refine ⟨n,by omega,by omega,by omega,fun h8=>?_⟩
   rw [aY,wBr,List.getElem?_append_right (by omega),←wBr] at h8
   exact qWu (by rw [dB,aL]; exact qGq hb n (by omega)) h8
theorem qFf :∀(b:List Ins) (off k at_:Int) (i:Nat),i<b.length→off+szB (b.take i)≤at_→at_<off+szB (b.take (i+1))→(dS b off k at_).1=k+i
 | [],_,_,_,i,h,_,_=>by simp at h
 | x::l,off,k,at_,0,_,h1,h2=>by
  simp only [List.take_zero,szB,wDn] at h1 h2
  unfold dS
  rw [if_pos (by omega)]
  simp
 | x::l,off,k,at_,i+1,h,h1,h2=>by
  simp only [wDn,szB] at h1 h2
  have hl:=(qKj (l.take i)).1
  unfold dS
  rw [if_neg (by omega)]
  rw [qFf l (off+wL x) (k+1) at_ i (by simpa using h) (by omega) (by omega)]
  push_cast
  omega
theorem qZ6 {caps:List Int} {b:List Ins} (hb:wF b caps.length=true) (hl:xG caps=true) {at_:Int} (h0:0≤at_) (h1:at_<((comp caps b).length:Int)) :
  0≤(dS b 0 0 at_).1∧(dS b 0 0 at_).1.toNat<b.length∧(((comp caps b).getD at_.toNat default).op=8→wL (b.getD (dS b 0 0 at_).1.toNat default)≠1):=by
 obtain ⟨i,g1,g2,g3,g4⟩:=qOg hb hl b.length (Nat.le_refl _) at_.toNat (by unfold comp at h1; omega)
 have hp:=qFf b 0 0 at_ i g1 (by omega) (by omega)
 rw [hp]
 have e:((0:Int)+(i:Int)).toNat=i:=by omega
 rw [e]
 exact ⟨by omega,g1,g4⟩
def lJ (p:wQ) (s:jB) (regs:List Int) (who at_:Int):Bool :=
 decide (who<p.bods.length)&&decide (0≤(dS (p.bods.getD who.toNat []) 0 0 at_).1) &&
  ((decide (s.op=8)&&qW s.r 0 (regs.length-1)&&decide (regs.getD s.r.toNat 0=0))||decide (wL ((p.bods.getD who.toNat []).getD (dS (p.bods.getD who.toNat []) 0 0 at_).1.toNat default)=1))
def did (p:wQ) (m:qT) (x:qDz):Bool:=decide ((jD m x).2=0)&&lJ p (qS m x.who.toNat) (qJ (jD m x).1 x.who.toNat).regs x.who (qJ m x.who.toNat).at_
def qB9 (p:wQ):qT→List qDz→List Int
 | _,[]=>[]
 | m,x::l=>(if did p m x then [x.who] else [])++qB9 p (jD m x).1 l
attribute [go_sem] iB qZl qZk
attribute [simp] iB qZl qZk
theorem xO {s:jB} {n:Int} (h:qBc s n=true):0≤s.r∧s.r≤7∧0≤s.b∧s.b≤7∧1≤s.op∧s.op≤13∧((0≤s.a∧s.a≤7)∨((s.op=5∨s.op=6∨s.op=7)∧s.a=-1)):=by
 unfold qBc at h
 simp only [wBp,qL,Bool.or_eq_true,decide_eq_true_eq] at h
 obtain ⟨⟨⟨h1,h2⟩,h3⟩,h4⟩:=h
 have:1≤s.op∧s.op≤13:=by
  repeat' split at h4
  all_goals (first | omega | simp at h4)
 omega
@[simp] def wB7 (m:qT):AV:=.agg [.ns 0 0 m.codes.length,.ns 1 0 m.cores.length,.ns 2 0 m.mem.cells.length,.ns 3 0 m.tr.length]
@[simp] def wBa (m:qT):FP:=[(0,some (1,codes .own m.codes),none),(1,some (4,cores .own m.cores),none),(2,some (1,zC .own m.mem.cells),none),(3,some (2,yY m.tr),none)]
@[simp] def wB8 (m:qT):FP:=[(0,some (1,codes .own m.codes),some (1,codes .own m.codes)),(1,some (4,cores .own m.cores),some (4,cores .own m.cores)),(2,some (1,zC .own m.mem.cells),some (1,zC .own m.mem.cells)),(3,some (2,yY m.tr),some (2,yY m.tr))]
attribute [go_sem] wBa wB7 wB8
def wAp (p:wQ) (M:qT) (i:Nat):Bool:=decide ((qJ M i).st=0)&&!qZc p M i
def rst (p:wQ) (i:Nat):Nat→qT→qT
 | 0,M=>M
 | n+1,M=>if wAp p M i then rst p i n (jD M ⟨i,0⟩).1 else M
def wB3 (p:wQ) (l:List Nat) (M:qT):qT:=l.foldl (fun M i=>rst p i 40 M) M
def w00:wZ:=⟨0,z24⟩
def wB6:List (List wZ):=wBj 24 [w00]
def z8:List Int:=wBj 8 0
@[simp] theorem wB2:z8.length=8:=rfl
def k00:uL:=⟨0,z8,z24,0⟩
def qS4 (l:List (List jB)):qT:=⟨l,wBj l.length k00,⟨wB6⟩,[]⟩
attribute [simp] qS4
attribute [go_sem] qS4
theorem qIt (f:Nat→Nat) (l:List bP):aN f (yY l)=yY l:=eM f _ ((bB l).2 trivial)
theorem qTm {A:Nat→Prop} (l:List bP):okR A (yY l)↔True:=by simp [aQ _ ((bB l).2 trivial)]
theorem qIb (f:Nat→Nat) (l:List jB):aN f (gL l)=gL l:=eM f _ ((fG l).2 trivial)
theorem qT0 {A:Nat→Prop} (l:List jB):okR A (gL l)↔True:=by simp [aQ _ ((fG l).2 trivial)]
attribute [go_sem] qIt qIb
attribute [simp] qIt qIb qTm qT0
@[simp] def wB9 (m:qT) (j:Nat):FP:=[(0,some (1,(codes .own m.codes).set j [.ns 4 0 (m.codes.getD j []).length]),some (1,(codes .own m.codes).set j [.ns 4 0 (m.codes.getD j []).length])),(1,some (4,cores .own m.cores),some (4,cores .own m.cores)),(2,some (1,zC .own m.mem.cells),some (1,zC .own m.mem.cells)),(3,some (2,yY m.tr),some (2,yY m.tr)),(4,some (5,gL (m.codes.getD j [])),some (5,gL (m.codes.getD j [])))]
attribute [go_sem] wB9
def jN (cs:List (List wZ)) (c:Nat):Int:=((cs.getD c []).getD ((cs.getD c []).length-1) default).v
def qRz:jZ:=⟨0,[],false⟩
def qOj (cs:List (List wZ)) (b:Nat) (room f:Int) (k:Nat):List Int:=(List.range k).map fun (i:Nat)=>jN cs (b+4+((f+(i:Int))%room).toNat)
theorem qLs (cs:List (List wZ)) (b:Nat) (room f:Int) (k:Nat):(qOj cs b room f k).length=k:=by simp [qOj]
def qQt (cs:List (List wZ)) (b:Nat) (room:Int):jZ×Bool :=
 if qW (jN cs (b+1)) 0 (room-1)&&qW (jN cs (b+2)) 0 room&&qW (jN cs (b+3)) 0 1 then
  (⟨room,qOj cs b room (jN cs (b+1)) (jN cs (b+2)).toNat,decide (jN cs (b+3)=1)⟩,true)
 else (qRz,false)
def qC8 (cs:List (List wZ)) (caps:List Int) (n:Int):jZ×Bool :=
 if !decide (base caps n<0)&&oK cs then qQt cs (base caps n).toNat (caps.getD n.toNat 0) else (qRz,false)
def qEa (cs:List (List wZ)) (caps:List Int) (n:Int):Bool:=decide (0≤base caps n)&&oK cs&&!decide (jN cs (base caps n).toNat=0)
theorem dC {p:wQ} (h:yR p=true):wG p (yJ p).1=true:=by
 have hp:=h
 simp only [yR,dY,wBp,decide_eq_true_eq] at hp
 obtain ⟨⟨⟨hb,_⟩,hc⟩,_⟩:=hp
 rw [jE]
 simp only [yJ,h,if_true]
 refine ⟨?_,?_,?_,?_,fun i hi=>?_,fun j hj=>?_⟩
 any_goals (first | exact h | (simp; done) | (simp [zV]; done))
 ·have hi':i<p.bods.length:=by simpa using hi
  have hg:(wBj p.bods.length zT).getD i default=zT:=by simp [wBr,hi']
  have h2:=List.all_eq_true.1 hb _ (yB p.bods i [] hi')
  simp only [wF,wBp,qL] at h2
  rw [hg]
  simp only [uC,zT,wBp,decide_eq_true_eq,qL]
  refine ⟨⟨rfl,by omega⟩,by omega⟩
 ·have hj':j<p.caps.length:=by simpa using hj
  have hg:(p.caps.map fun c=>(⟨c,[],false⟩:jZ)).getD j default=⟨p.caps.getD j 0,[],false⟩:=by simp [wBr,hj']
  rw [hg]
  have h2:=List.all_eq_true.1 hc _ (yB p.caps j 0 hj')
  refine ⟨?_,rfl⟩
  simp only [jT,h2,Bool.true_and,decide_eq_true_eq]
  rw [qL] at h2
  simp [-wBr]
  omega
theorem qIg {p:wQ} (h:yR p=true):aW p:=by
 simp only [yR,wBp,decide_eq_true_eq,qL] at h
 obtain ⟨⟨⟨hb,h1⟩,_⟩,h2⟩:=h
 refine ⟨by omega,by omega,fun b hb'=>?_⟩
 have:=List.all_eq_true.1 hb b hb'
 simp only [wF,wBp,qL] at this
 omega
end Go.Sep
