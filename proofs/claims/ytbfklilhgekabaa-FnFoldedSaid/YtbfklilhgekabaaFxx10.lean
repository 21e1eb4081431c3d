/- Contracts of functions. -/
import Derived.Test.YtbfklilhgekabaaFxx9
open Bool renaming and_eq_true → qZa
open List renaming getD_eq_getElem?_getD → qZc, length_append → qZq, replicate → qZ4, take_succ_cons → wB9
namespace Go.Sep
set_option maxHeartbeats 16000000
open Go.Proofs
set_option linter.unusedSimpArgs false
set_option linter.unusedVariables false
set_option maxRecDepth 100000
def m98:MFn:=⟨10,[.t 4],kr [xI 4 0] (.seq (kr [xv 5 0,xv 6 1,bT 7 .gtr 5 6] (kF 7 [xv 8 0,xv 4 8])) (kR [xv 9 1,xv 4 9]))⟩
theorem qIw (f:Nat→Nat) (l:List uL):aR f (cores .own l)=cores .own l:=eT f _ ((qAs l).2 trivial)
theorem qSw {A:Nat→Prop} (l:List uL):okR A (cores .own l)↔True:=by simp [aU _ ((qAs l).2 trivial)]
theorem qSv {A:Nat→Prop} (l:List uL) (i:Nat) (r:List AV) (h:okL A r):okR A ((cores .own l).set i r):=qA5 _ _ _ (aU _ ((qAs l).2 trivial)) h
theorem qNa (f:Nat→Nat) (l:List (List yC)):aR f (zF .own l)=zF .own l:=eT f _ ((qAx l).2 trivial)
theorem qVp {A:Nat→Prop} (l:List (List yC)):okR A (zF .own l)↔True:=by simp [aU _ ((qAx l).2 trivial)]
theorem qVo {A:Nat→Prop} (l:List (List yC)) (i:Nat) (r:List AV) (h:okL A r):okR A ((zF .own l).set i r):=qA5 _ _ _ (aU _ ((qAx l).2 trivial)) h
theorem qIy (f:Nat→Nat) (l:List (List jA)):aR f (codes .own l)=codes .own l:=eT f _ ((hX l).2 trivial)
theorem qT2 {A:Nat→Prop} (l:List (List jA)):okR A (codes .own l)↔True:=by simp [aU _ ((hX l).2 trivial)]
theorem qT1 {A:Nat→Prop} (l:List (List jA)) (i:Nat) (r:List AV) (h:okL A r):okR A ((codes .own l).set i r):=qA5 _ _ _ (aU _ ((hX l).2 trivial)) h
theorem qDz (f:Nat→Nat) (l:List yC):aR f (uB .own l)=uB .own l:=eT f _ ((fA l).2 trivial)
theorem qNw {A:Nat→Prop} (l:List yC):okR A (uB .own l)↔True:=by simp [aU _ ((fA l).2 trivial)]
theorem qNv {A:Nat→Prop} (l:List yC) (i:Nat) (r:List AV) (h:okL A r):okR A ((uB .own l).set i r):=qA5 _ _ _ (aU _ ((fA l).2 trivial)) h
theorem qMk (f:Nat→Nat) (l:List Int):aR f (wR l)=wR l:=eT f _ ((uF l).2 trivial)
theorem qUt {A:Nat→Prop} (l:List Int):okR A (wR l)↔True:=by simp [aU _ ((uF l).2 trivial)]
attribute [go_sem] aS aR qEo qIw qNa qIy qDz qMk
attribute [simp] aS aR qEo qIw qNa qIy qDz qMk okR qSw qVp qT2 qNw qUt qSv qVo qT1 qNv
theorem qSf (a b:Int):wA Try.prog num 98 [.int .i64 a,.int .i64 b] [] (.int .i64 (max a b)):=by
 refine EN m98 Try.func94 ?_
 unfold m98
 by_cases h:b<a
 ·simp only [go_sem,seval,h]
  refine fz ?_; simp [yK,wB,wC,wJ,-List.drop_one]
  omega
 ·simp only [go_sem,seval,h]
  refine fz ?_; simp [yK,wB,wC,wJ,-List.drop_one]
  omega
def iE (cds:List (List jA)) (n1:Nat) (cs cs':List (List yC)) (tr:List gJ) (R:List (List AV)) (v:List Int):FP :=
 [(0,some (4,[[.sl .own 1 (codes .own cds),.ns 1 0 n1,.sl .own 1 (zF .own cs),.sl .own 2 (jC tr)]]),some (4,[[.sl .own 1 (codes .own cds),.ns 1 0 n1,.sl .own 1 (zF .own cs'),.sl .own 2 (jC tr)]])),
  (1,some (4,R),some (4,R)),(2,some (1,wR v),some (1,wR v))]
def z24:List Int:=qZ4 24 0
@[simp] theorem qYj:z24.length=24:=rfl
def qXd (cds:List (List jA)) (n1:Nat) (cs cs':List (List yC)) (tr:List gJ) (R:List (List AV)) (v x0:List Int):FP:=iE cds n1 cs cs' tr R v++[(3,some (1,wR x0),some (1,wR x0))]
def qXc (cds:List (List jA)) (n1:Nat) (cs cs':List (List yC)) (tr:List gJ) (R:List (List AV)) (v x0 x1:List Int):FP:=iE cds n1 cs cs' tr R v++[(3,some (1,wR x0),some (1,wR x0)),(4,some (1,wR x1),some (1,wR x1))]
def qXf (k:Int) (m:qR):FP:=[(0,some (1,codes .own m.codes),some (1,codes .own (mks qJj qOn k m.codes))),(1,some (4,cores .own m.cores),some (4,cores .own (mks qTh qSb (k+nR qJj m.codes) m.cores))),(2,some (1,zF .own m.mem.cells),some (1,zF .own (mks qQ1 qM9 (k+nR qJj m.codes+nR qTh m.cores) m.mem.cells))),(3,some (2,jC m.tr),some (2,jC (mks qYb qSa (k+nR qJj m.codes+nR qTh m.cores+nR qQ1 m.mem.cells) m.tr)))]
attribute [go_sem] qXf
attribute [simp] qXf
theorem qSt {caps:List Int} {x:Ins} {f:Int} {starts:List Int} (h:jF x starts.length caps.length=true) (hb:qO x.op 5 9=true→¬base caps x.n<0):((qAo caps x f starts).length:Int)=wK x:=by
 have ho:=(fV h).1
 unfold qAo wK
 rw [if_pos h]
 split
 ·rename_i hw
  rw [if_neg (hb hw)]
  rw [qK] at hw
  have hc:x.op=5∨x.op=6∨x.op=7∨x.op=8∨x.op=9:=by omega
  rcases hc with hc | hc | hc | hc | hc<;>simp [hc,fR,tY,tQ,mQ,nX,rU]
 ·rename_i hw
  have hw :¬(5≤x.op∧x.op≤9):=fun e=>hw (qK.2 e)
  rw [if_neg (by omega),if_neg (by omega),if_neg (by omega),if_neg (by omega),if_neg (by omega),ho]
  simp [uK]
theorem qV8 {caps:List Int} {x:Ins} {f:Int} {starts:List Int} {j:Nat} (h:jF x starts.length caps.length=true) (h8:((qAo caps x f starts).getD j default).op=8):wK x≠1:=by
 have ho:=(fV h).1
 unfold qAo at h8
 rw [if_pos h] at h8
 unfold wK
 split at h8
 ·rename_i hw
  rw [qK] at hw
  have hc:x.op=5∨x.op=6∨x.op=7∨x.op=8∨x.op=9:=by omega
  rcases hc with hc | hc | hc | hc | hc<;>simp [hc]
 ·exfalso
  cases j with
  | zero =>
   simp only [List.getD_cons_zero] at h8
   unfold single at h8
   repeat' split at h8
   all_goals (simp at h8)
  | succ j =>
   simp [qZc] at h8
   exact absurd h8 (by decide)
theorem qGb {b:List Ins} {n:Nat} (h:wT b n=true) (i:Nat) (hi:i<b.length):jF (b.getD i default) b.length n=true:=by
 unfold wT at h
 simp only [qZa,List.all_eq_true] at h
 exact h.1.2 _ (yL b i default hi)
theorem qMd {caps:List Int} (hl:xJ caps=true) {n:Int} (h:0≤n∧n<caps.length) :¬base caps n<0:=by
 unfold base
 have hw:qO n 0 ((caps.length:Int)-1)=true:=by rw [qK]; omega
 rw [hl,hw]
 unfold xJ at hl
 simp only [qZa] at hl
 have:=lV hl.1 n.toNat
 simp only [Bool.and_self,if_true]
 omega
theorem qDu {caps:List Int} {b:List Ins} (hb:wT b caps.length=true) (hl:xJ caps=true) (i:Nat) (hi:i<b.length) (f:Int):((qAo caps (b.getD i default) f (dB b)).length:Int)=wK (b.getD i default):=by
 have h:=qGb hb i hi
 refine qSt (by rw [dB,aP]; exact h) fun hw=>qMd hl ?_
 exact qOy h hw
theorem mP {caps:List Int} {b:List Ins} (hb:wT b caps.length=true) (hl:xJ caps=true) :∀i,i≤b.length→((eF caps b i).length:Int)=szB (b.take i)
 | 0,_=>by simp [eF,szB]
 | i+1,hi=>by
  have:=mP hb hl i (by omega)
  have:=qDu hb hl i (by omega) (szB (b.take i))
  rw [nT b i (by omega)]
  simp only [eF,qZq]
  omega
theorem qN6 {caps:List Int} {b:List Ins} (hb:wT b caps.length=true) (hl:xJ caps=true) :∀(n:Nat),n≤b.length→∀at_:Nat,at_<(eF caps b n).length→
  ∃i,i<n∧szB (b.take i)≤at_∧(at_:Int)<szB (b.take (i+1))∧(((eF caps b n).getD at_ default).op=8→wK (b.getD i default)≠1)
 | 0,_,at_,h=>by simp [eF] at h
 | n+1,hn,at_,h=>by
  by_cases hc:at_<(eF caps b n).length
  ·obtain ⟨i,h1,h2,h3,h4⟩:=qN6 hb hl n (by omega) at_ hc
   refine ⟨i,by omega,h2,h3,fun h8=>h4 ?_⟩
   rw [←h8,eF,qZc,qZc,List.getElem?_append_left hc]
  ·have hs:=mP hb hl n (by omega)
   have he:=qDu hb hl n (by omega) (szB (b.take n))
   have hz:=nT b n (by omega)
   simp only [eF,qZq] at h
   refine ⟨n,by omega,by omega,by omega,fun h8=>?_⟩
   rw [eF,qZc,List.getElem?_append_right (by omega),←qZc] at h8
   exact qV8 (by rw [dB,aP]; exact qGb hb n (by omega)) h8
theorem qEv :∀(b:List Ins) (off k at_:Int) (i:Nat),i<b.length→off+szB (b.take i)≤at_→at_<off+szB (b.take (i+1))→(dS b off k at_).1=k+i
 | [],_,_,_,i,h,_,_=>by simp at h
 | x::l,off,k,at_,0,_,h1,h2=>by
  simp only [List.take_zero,szB,wB9] at h1 h2
  unfold dS
  rw [if_pos (by omega)]
  simp
 | x::l,off,k,at_,i+1,h,h1,h2=>by
  simp only [wB9,szB] at h1 h2
  have hl:=(qJq (l.take i)).1
  unfold dS
  rw [if_neg (by omega)]
  rw [qEv l (off+wK x) (k+1) at_ i (by simpa using h) (by omega) (by omega)]
  push_cast
  omega
theorem qWy {caps:List Int} {b:List Ins} (hb:wT b caps.length=true) (hl:xJ caps=true) {at_:Int} (h0:0≤at_) (h1:at_<((comp caps b).length:Int)) :
  0≤(dS b 0 0 at_).1∧(dS b 0 0 at_).1.toNat<b.length∧(((comp caps b).getD at_.toNat default).op=8→wK (b.getD (dS b 0 0 at_).1.toNat default)≠1):=by
 obtain ⟨i,g1,g2,g3,g4⟩:=qN6 hb hl b.length (Nat.le_refl _) at_.toNat (by unfold comp at h1; omega)
 have hp:=qEv b 0 0 at_ i g1 (by omega) (by omega)
 rw [hp]
 have e:((0:Int)+(i:Int)).toNat=i:=by omega
 rw [e]
 exact ⟨by omega,g1,g4⟩
def lJ (p:wV) (s:jA) (regs:List Int) (who at_:Int):Bool :=
 decide (who<p.bods.length)&&decide (0≤(dS (p.bods.getD who.toNat []) 0 0 at_).1) &&
  ((decide (s.op=8)&&qO s.r 0 (regs.length-1)&&decide (regs.getD s.r.toNat 0=0))||decide (wK ((p.bods.getD who.toNat []).getD (dS (p.bods.getD who.toNat []) 0 0 at_).1.toNat default)=1))
def did (p:wV) (m:qR) (x:qL6):Bool:=decide ((jJ m x).2=0)&&lJ p (qP m x.who.toNat) (qI (jJ m x).1 x.who.toNat).regs x.who (qI m x.who.toNat).at_
attribute [go_sem] iE qXd qXc
attribute [simp] iE qXd qXc
theorem xR {s:jA} {n:Int} (h:qB9 s n=true):0≤s.r∧s.r≤7∧0≤s.b∧s.b≤7∧1≤s.op∧s.op≤13∧((0≤s.a∧s.a≤7)∨((s.op=5∨s.op=6∨s.op=7)∧s.a=-1)):=by
 unfold qB9 at h
 simp only [qZa,qK,Bool.or_eq_true,decide_eq_true_eq] at h
 obtain ⟨⟨⟨h1,h2⟩,h3⟩,h4⟩:=h
 have:1≤s.op∧s.op≤13:=by
  repeat' split at h4
  all_goals (first | omega | simp at h4)
 omega
@[simp] def qYs (m:qR):AV:=.agg [.ns 0 0 m.codes.length,.ns 1 0 m.cores.length,.ns 2 0 m.mem.cells.length,.ns 3 0 m.tr.length]
@[simp] def qYv (m:qR):FP:=[(0,some (1,codes .own m.codes),none),(1,some (4,cores .own m.cores),none),(2,some (1,zF .own m.mem.cells),none),(3,some (2,jC m.tr),none)]
@[simp] def qYt (m:qR):FP:=[(0,some (1,codes .own m.codes),some (1,codes .own m.codes)),(1,some (4,cores .own m.cores),some (4,cores .own m.cores)),(2,some (1,zF .own m.mem.cells),some (1,zF .own m.mem.cells)),(3,some (2,jC m.tr),some (2,jC m.tr))]
attribute [go_sem] qYv qYs qYt
def qYe (p:wV) (M:qR) (i:Nat):Bool:=decide ((qI M i).st=0)&&!qX4 p M i
def rst (p:wV) (i:Nat):Nat→qR→qR
 | 0,M=>M
 | n+1,M=>if qYe p M i then rst p i n (jJ M ⟨i,0⟩).1 else M
def qYo (p:wV) (l:List Nat) (M:qR):qR:=l.foldl (fun M i=>rst p i 40 M) M
def w00:yC:=⟨0,z24⟩
def qYr:List (List yC):=qZ4 24 [w00]
def z8:List Int:=qZ4 8 0
@[simp] theorem qYn:z8.length=8:=rfl
def k00:uL:=⟨0,z8,z24,0⟩
def qQv (l:List (List jA)):qR:=⟨l,qZ4 l.length k00,⟨qYr⟩,[]⟩
attribute [simp] qQv
attribute [go_sem] qQv
theorem qI6 (f:Nat→Nat) (l:List gJ):aR f (jC l)=jC l:=eT f _ ((bD l).2 trivial)
theorem qS0 {A:Nat→Prop} (l:List gJ):okR A (jC l)↔True:=by simp [aU _ ((bD l).2 trivial)]
theorem qHu (f:Nat→Nat) (l:List jA):aR f (gQ l)=gQ l:=eT f _ ((fJ l).2 trivial)
theorem qRh {A:Nat→Prop} (l:List jA):okR A (gQ l)↔True:=by simp [aU _ ((fJ l).2 trivial)]
attribute [go_sem] qI6 qHu
attribute [simp] qI6 qHu qS0 qRh
@[simp] def qYu (m:qR) (j:Nat):FP:=[(0,some (1,(codes .own m.codes).set j [.ns 4 0 (m.codes.getD j []).length]),some (1,(codes .own m.codes).set j [.ns 4 0 (m.codes.getD j []).length])),(1,some (4,cores .own m.cores),some (4,cores .own m.cores)),(2,some (1,zF .own m.mem.cells),some (1,zF .own m.mem.cells)),(3,some (2,jC m.tr),some (2,jC m.tr)),(4,some (5,gQ (m.codes.getD j [])),some (5,gQ (m.codes.getD j [])))]
attribute [go_sem] qYu
def jN (cs:List (List yC)) (c:Nat):Int:=((cs.getD c []).getD ((cs.getD c []).length-1) default).v
def qQp:vF:=⟨0,[],false⟩
def qN9 (cs:List (List yC)) (b:Nat) (room f:Int) (k:Nat):List Int:=(List.range k).map fun (i:Nat)=>jN cs (b+4+((f+(i:Int))%room).toNat)
theorem qKu (cs:List (List yC)) (b:Nat) (room f:Int) (k:Nat):(qN9 cs b room f k).length=k:=by simp [qN9]
def qPj (cs:List (List yC)) (b:Nat) (room:Int):vF×Bool :=
 if qO (jN cs (b+1)) 0 (room-1)&&qO (jN cs (b+2)) 0 room&&qO (jN cs (b+3)) 0 1 then
  (⟨room,qN9 cs b room (jN cs (b+1)) (jN cs (b+2)).toNat,decide (jN cs (b+3)=1)⟩,true)
 else (qQp,false)
def qBz (cs:List (List yC)) (caps:List Int) (n:Int):vF×Bool :=
 if !decide (base caps n<0)&&oM cs then qPj cs (base caps n).toNat (caps.getD n.toNat 0) else (qQp,false)
def qDs (cs:List (List yC)) (caps:List Int) (n:Int):Bool:=decide (0≤base caps n)&&oM cs&&!decide (jN cs (base caps n).toNat=0)
theorem dC {p:wV} (h:yT p=true):wF p (yP p).1=true:=by
 have hp:=h
 simp only [yT,dZ,qZa,decide_eq_true_eq] at hp
 obtain ⟨⟨⟨hb,_⟩,hc⟩,_⟩:=hp
 rw [yY]
 simp only [yP,h,if_true]
 refine ⟨?_,?_,?_,?_,fun i hi=>?_,fun j hj=>?_⟩
 any_goals (first | exact h | (simp; done) | (simp [zZ]; done))
 ·have hi':i<p.bods.length:=by simpa using hi
  have hg:(qZ4 p.bods.length zX).getD i default=zX:=by simp [qZc,hi']
  have h2:=List.all_eq_true.1 hb _ (yL p.bods i [] hi')
  simp only [wT,qZa,qK] at h2
  rw [hg]
  simp only [vS,zX,qZa,decide_eq_true_eq,qK]
  refine ⟨⟨rfl,by omega⟩,by omega⟩
 ·have hj':j<p.caps.length:=by simpa using hj
  have hg:(p.caps.map fun c=>(⟨c,[],false⟩:vF)).getD j default=⟨p.caps.getD j 0,[],false⟩:=by simp [qZc,hj']
  rw [hg]
  have h2:=List.all_eq_true.1 hc _ (yL p.caps j 0 hj')
  refine ⟨?_,rfl⟩
  simp only [jQ,h2,Bool.true_and,decide_eq_true_eq]
  rw [qK] at h2
  simp [-qZc]
  omega
theorem pR {p:wV} (h:yT p=true):aG p:=by
 simp only [yT,qZa,decide_eq_true_eq,qK] at h
 obtain ⟨⟨⟨hb,h1⟩,_⟩,h2⟩:=h
 refine ⟨by omega,by omega,fun b hb'=>?_⟩
 have:=List.all_eq_true.1 hb b hb'
 simp only [wT,qZa,qK] at this
 omega
end Go.Sep
