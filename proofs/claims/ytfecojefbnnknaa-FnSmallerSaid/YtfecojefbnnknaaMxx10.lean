/- Contracts of functions. -/
import Derived.Test.YtfecojefbnnknaaMxx9
open Bool renaming and_eq_true → wCs
open List renaming getD_eq_getElem?_getD → wCu, length_append → wD8, replicate → wCm, take_succ_cons → wEp
namespace Go.Sep
set_option maxHeartbeats 16000000
open Go.Proofs
set_option linter.unusedSimpArgs false
set_option linter.unusedVariables false
set_option maxRecDepth 100000
def m98:MFn:=⟨10,[.t 4],kr [xI 4 0] (.seq (kr [xv 5 0,xv 6 1,bT 7 .gtr 5 6] (kF 7 [xv 8 0,xv 4 8])) (kR [xv 9 1,xv 4 9]))⟩
def qZo:qQ→List qEh→qQ
 | m,[]=>m
 | m,x::l=>qZo (jD m x).1 l
theorem qK5 (f:Nat→Nat) (l:List uH):eC f (cores .own l)=cores .own l:=cC f _ ((qBb l).2 trivial)
theorem qV2 {A:Nat→Prop} (l:List uH):okR A (cores .own l)↔True:=by simp [eF _ ((qBb l).2 trivial)]
theorem qV1 {A:Nat→Prop} (l:List uH) (i:Nat) (r:List AV) (h:okL A r):okR A ((cores .own l).set i r):=qAk _ _ _ (eF _ ((qBb l).2 trivial)) h
theorem qOr (f:Nat→Nat) (l:List (List yA)):eC f (zH .own l)=zH .own l:=cC f _ ((qBh l).2 trivial)
theorem qYk {A:Nat→Prop} (l:List (List yA)):okR A (zH .own l)↔True:=by simp [eF _ ((qBh l).2 trivial)]
theorem qYj {A:Nat→Prop} (l:List (List yA)) (i:Nat) (r:List AV) (h:okL A r):okR A ((zH .own l).set i r):=qAk _ _ _ (eF _ ((qBh l).2 trivial)) h
theorem qK7 (f:Nat→Nat) (l:List (List jB)):eC f (codes .own l)=codes .own l:=cC f _ ((iQ l).2 trivial)
theorem qV8 {A:Nat→Prop} (l:List (List jB)):okR A (codes .own l)↔True:=by simp [eF _ ((iQ l).2 trivial)]
theorem qV7 {A:Nat→Prop} (l:List (List jB)) (i:Nat) (r:List AV) (h:okL A r):okR A ((codes .own l).set i r):=qAk _ _ _ (eF _ ((iQ l).2 trivial)) h
theorem qEy (f:Nat→Nat) (l:List yA):eC f (vX .own l)=vX .own l:=cC f _ ((fT l).2 trivial)
theorem qPc {A:Nat→Prop} (l:List yA):okR A (vX .own l)↔True:=by simp [eF _ ((fT l).2 trivial)]
theorem qPb {A:Nat→Prop} (l:List yA) (i:Nat) (r:List AV) (h:okL A r):okR A ((vX .own l).set i r):=qAk _ _ _ (eF _ ((fT l).2 trivial)) h
theorem qO0 (f:Nat→Nat) (l:List Int):eC f (wR l)=wR l:=cC f _ ((uA l).2 trivial)
theorem qXi {A:Nat→Prop} (l:List Int):okR A (wR l)↔True:=by simp [eF _ ((uA l).2 trivial)]
attribute [go_sem] eD eC qFm qK5 qOr qK7 qEy qO0
attribute [simp] eD eC qFm qK5 qOr qK7 qEy qO0 okR qV2 qYk qV8 qPc qXi qV1 qYj qV7 qPb
theorem qUm (a b:Int):wD Try.prog num 98 [.int .i64 a,.int .i64 b] [] (.int .i64 (max a b)):=by
 refine EN m98 Try.func97 ?_
 unfold m98
 by_cases h:b<a
 ·simp only [go_sem,seval,h]
  refine fz ?_; simp [yS,wL,wM,wV,-List.drop_one]
  omega
 ·simp only [go_sem,seval,h]
  refine fz ?_; simp [yS,wL,wM,wV,-List.drop_one]
  omega
def iW (cds:List (List jB)) (n1:Nat) (cs cs':List (List yA)) (tr:List bM) (R:List (List AV)) (v:List Int):FP :=
 [(0,some (4,[[.sl .own 1 (codes .own cds),.ns 1 0 n1,.sl .own 1 (zH .own cs),.sl .own 2 (jC tr)]]),some (4,[[.sl .own 1 (codes .own cds),.ns 1 0 n1,.sl .own 1 (zH .own cs'),.sl .own 2 (jC tr)]])),
  (1,some (4,R),some (4,R)),(2,some (1,wR v),some (1,wR v))]
def z24:List Int:=wCm 24 0
@[simp] theorem wC0:z24.length=24:=rfl
def wAq (cds:List (List jB)) (n1:Nat) (cs cs':List (List yA)) (tr:List bM) (R:List (List AV)) (v x0:List Int):FP:=iW cds n1 cs cs' tr R v++[(3,some (1,wR x0),some (1,wR x0))]
def wAp (cds:List (List jB)) (n1:Nat) (cs cs':List (List yA)) (tr:List bM) (R:List (List AV)) (v x0 x1:List Int):FP:=iW cds n1 cs cs' tr R v++[(3,some (1,wR x0),some (1,wR x0)),(4,some (1,wR x1),some (1,wR x1))]
def wAs (k:Int) (m:qQ):FP:=[(0,some (1,codes .own m.codes),some (1,codes .own (mks qKp qQ8 k m.codes))),(1,some (4,cores .own m.cores),some (4,cores .own (mks qVs qUb (k+sS qKp m.codes) m.cores))),(2,some (1,zH .own m.mem.cells),some (1,zH .own (mks qRk qNp (k+sS qKp m.codes+sS qVs m.cores) m.mem.cells))),(3,some (2,jC m.tr),some (2,jC (mks wBp qUa (k+sS qKp m.codes+sS qVs m.cores+sS qRk m.mem.cells) m.tr)))]
attribute [go_sem] wAs
attribute [simp] wAs
theorem qUw {caps:List Int} {x:Ins} {f:Int} {starts:List Int} (h:jE x starts.length caps.length=true) (hb:qR x.op 5 9=true→¬base caps x.n<0):((qB7 caps x f starts).length:Int)=wN x:=by
 have ho:=(iJ h).1
 unfold qB7 wN
 rw [if_pos h]
 split
 ·rename_i hw
  rw [if_neg (hb hw)]
  rw [qK] at hw
  have hc:x.op=5∨x.op=6∨x.op=7∨x.op=8∨x.op=9:=by omega
  rcases hc with hc | hc | hc | hc | hc<;>simp [hc,iG,qAa,qA0,nM,oL,sF]
 ·rename_i hw
  have hw :¬(5≤x.op∧x.op≤9):=fun e=>hw (qK.2 e)
  rw [if_neg (by omega),if_neg (by omega),if_neg (by omega),if_neg (by omega),if_neg (by omega),ho]
  simp [uO]
theorem qXz {caps:List Int} {x:Ins} {f:Int} {starts:List Int} {j:Nat} (h:jE x starts.length caps.length=true) (h8:((qB7 caps x f starts).getD j default).op=8):wN x≠1:=by
 have ho:=(iJ h).1
 unfold qB7 at h8
 rw [if_pos h] at h8
 unfold wN
 split at h8
 ·rename_i hw
  rw [qK] at hw
  have hc:x.op=5∨x.op=6∨x.op=7∨x.op=8∨x.op=9:=by omega
  rcases hc with hc | hc | hc | hc | hc<;>simp [hc]
 ·exfalso
  cases j with
  | zero =>
   simp only [List.getD_cons_zero] at h8
   unfold single at h8
   repeat' split at h8
   all_goals (simp at h8)
  | succ j =>
   simp [wCu] at h8
   exact absurd h8 (by decide)
theorem qHg {b:List Ins} {n:Nat} (h:wB b n=true) (i:Nat) (hi:i<b.length):jE (b.getD i default) b.length n=true:=by
 unfold wB at h
 simp only [wCs,List.all_eq_true] at h
 exact h.1.2 _ (yL b i default hi)
theorem qNu {caps:List Int} (hl:xR caps=true) {n:Int} (h:0≤n∧n<caps.length) :¬base caps n<0:=by
 unfold base
 have hw:qR n 0 ((caps.length:Int)-1)=true:=by rw [qK]; omega
 rw [hl,hw]
 unfold xR at hl
 simp only [wCs] at hl
 have:=mR hl.1 n.toNat
 simp only [Bool.and_self,if_true]
 omega
theorem qEt {caps:List Int} {b:List Ins} (hb:wB b caps.length=true) (hl:xR caps=true) (i:Nat) (hi:i<b.length) (f:Int):((qB7 caps (b.getD i default) f (dE b)).length:Int)=wN (b.getD i default):=by
 have h:=qHg hb i hi
 refine qUw (by rw [dE,eA]; exact h) fun hw=>qNu hl ?_
 exact qQi h hw
theorem nL {caps:List Int} {b:List Ins} (hb:wB b caps.length=true) (hl:xR caps=true) :∀i,i≤b.length→((eO caps b i).length:Int)=szB (b.take i)
 | 0,_=>by simp [eO,szB]
 | i+1,hi=>by
  have:=nL hb hl i (by omega)
  have:=qEt hb hl i (by omega) (szB (b.take i))
  rw [oI b i (by omega)]
  simp only [eO,wD8]
  omega
theorem qOn {caps:List Int} {b:List Ins} (hb:wB b caps.length=true) (hl:xR caps=true) :∀(n:Nat),n≤b.length→∀at_:Nat,at_<(eO caps b n).length→
  ∃i,i<n∧szB (b.take i)≤at_∧(at_:Int)<szB (b.take (i+1))∧(((eO caps b n).getD at_ default).op=8→wN (b.getD i default)≠1)
 | 0,_,at_,h=>by simp [eO] at h
 | n+1,hn,at_,h=>by
  by_cases hc:at_<(eO caps b n).length
  ·obtain ⟨i,h1,h2,h3,h4⟩:=qOn hb hl n (by omega) at_ hc
   refine ⟨i,by omega,h2,h3,fun h8=>h4 ?_⟩
   rw [←h8,eO,wCu,wCu,List.getElem?_append_left hc]
  ·have hs:=nL hb hl n (by omega)
   have he:=qEt hb hl n (by omega) (szB (b.take n))
   have hz:=oI b n (by omega)
   simp only [eO,wD8] at h
   refine ⟨n,by omega,by omega,by omega,fun h8=>?_⟩
   rw [eO,wCu,List.getElem?_append_right (by omega),←wCu] at h8
   exact qXz (by rw [dE,eA]; exact qHg hb n (by omega)) h8
theorem qFu :∀(b:List Ins) (off k at_:Int) (i:Nat),i<b.length→off+szB (b.take i)≤at_→at_<off+szB (b.take (i+1))→(dU b off k at_).1=k+i
 | [],_,_,_,i,h,_,_=>by simp at h
 | x::l,off,k,at_,0,_,h1,h2=>by
  simp only [List.take_zero,szB,wEp] at h1 h2
  unfold dU
  rw [if_pos (by omega)]
  simp
 | x::l,off,k,at_,i+1,h,h1,h2=>by
  simp only [wEp,szB] at h1 h2
  have hl:=(qKx (l.take i)).1
  unfold dU
  rw [if_neg (by omega)]
  rw [qFu l (off+wN x) (k+1) at_ i (by simpa using h) (by omega) (by omega)]
  push_cast
  omega
theorem wAb {caps:List Int} {b:List Ins} (hb:wB b caps.length=true) (hl:xR caps=true) {at_:Int} (h0:0≤at_) (h1:at_<((comp caps b).length:Int)) :
  0≤(dU b 0 0 at_).1∧(dU b 0 0 at_).1.toNat<b.length∧(((comp caps b).getD at_.toNat default).op=8→wN (b.getD (dU b 0 0 at_).1.toNat default)≠1):=by
 obtain ⟨i,g1,g2,g3,g4⟩:=qOn hb hl b.length (Nat.le_refl _) at_.toNat (by unfold comp at h1; omega)
 have hp:=qFu b 0 0 at_ i g1 (by omega) (by omega)
 rw [hp]
 have e:((0:Int)+(i:Int)).toNat=i:=by omega
 rw [e]
 exact ⟨by omega,g1,g4⟩
def mH (p:wK) (s:jB) (regs:List Int) (who at_:Int):Bool :=
 decide (who<p.bods.length)&&decide (0≤(dU (p.bods.getD who.toNat []) 0 0 at_).1) &&
  ((decide (s.op=8)&&qR s.r 0 (regs.length-1)&&decide (regs.getD s.r.toNat 0=0))||decide (wN ((p.bods.getD who.toNat []).getD (dU (p.bods.getD who.toNat []) 0 0 at_).1.toNat default)=1))
def did (p:wK) (m:qQ) (x:qEh):Bool:=decide ((jD m x).2=0)&&mH p (qP m x.who.toNat) (qI (jD m x).1 x.who.toNat).regs x.who (qI m x.who.toNat).at_
def qBr (p:wK):qQ→List qEh→List Int
 | _,[]=>[]
 | m,x::l=>(if did p m x then [x.who] else [])++qBr p (jD m x).1 l
attribute [go_sem] iW wAq wAp
attribute [simp] iW wAq wAp
theorem xZ {s:jB} {n:Int} (h:qBu s n=true):0≤s.r∧s.r≤7∧0≤s.b∧s.b≤7∧1≤s.op∧s.op≤13∧((0≤s.a∧s.a≤7)∨((s.op=5∨s.op=6∨s.op=7)∧s.a=-1)):=by
 unfold qBu at h
 simp only [wCs,qK,Bool.or_eq_true,decide_eq_true_eq] at h
 obtain ⟨⟨⟨h1,h2⟩,h3⟩,h4⟩:=h
 have:1≤s.op∧s.op≤13:=by
  repeat' split at h4
  all_goals (first | omega | simp at h4)
 omega
@[simp] def wC9 (m:qQ):AV:=.agg [.ns 0 0 m.codes.length,.ns 1 0 m.cores.length,.ns 2 0 m.mem.cells.length,.ns 3 0 m.tr.length]
@[simp] def wCc (m:qQ):FP:=[(0,some (1,codes .own m.codes),none),(1,some (4,cores .own m.cores),none),(2,some (1,zH .own m.mem.cells),none),(3,some (2,jC m.tr),none)]
@[simp] def wCa (m:qQ):FP:=[(0,some (1,codes .own m.codes),some (1,codes .own m.codes)),(1,some (4,cores .own m.cores),some (4,cores .own m.cores)),(2,some (1,zH .own m.mem.cells),some (1,zH .own m.mem.cells)),(3,some (2,jC m.tr),some (2,jC m.tr))]
attribute [go_sem] wCc wC9 wCa
def qB6 (p:wK) (st:qU×Int) (i:Nat):qU×Int:=((qM p st.1 i).1,if (qM p st.1 i).2=0 then st.2+1 else st.2)
def zA (p:wK) (j:Nat) (st:qU×Int):qU×Int:=(List.range j).foldl (qB6 p) st
theorem sL (p:wK) (j:Nat) (st:qU×Int):zA p (j+1) st=qB6 p (zA p j st) j:=by
 unfold zA
 rw [List.range_succ,List.foldl_append]
 rfl
def aE (p:wK) (s:qU):Nat→qU×Int
 | 0=>(s,0)
 | k+1=>zA p p.bods.length (aE p s k)
def qGw (p:wK) (s:qU) (rounds:Int):qU×Int:=if qZ p s then aE p s (if rounds<200 then rounds else 200).toNat else (⟨[],[],[]⟩,0)
theorem qFy {p:wK} {s:qU} (h:qZ p s=true):s.ths.length=p.bods.length∧p.bods.length≤4:=by
 obtain ⟨hp,h1,_⟩:=(jF p s).1 h
 simp only [wY,wCs,decide_eq_true_eq,qK] at hp
 omega
theorem pQ {p:wK} {st:qU×Int} {n:Int} (h:qZ p st.1=true) (h0:0≤st.2) (h1:st.2≤n) :∀j,qZ p (zA p j st).1=true∧0≤(zA p j st).2∧(zA p j st).2≤n+j
 | 0=>⟨h,h0,by simpa [zA] using h1⟩
 | j+1=>by
  rw [sL]
  have ih:=pQ h h0 h1 j
  refine ⟨gF _ ih.1,?_⟩
  unfold qB6
  simp only
  split<;>(push_cast; omega)
theorem qOe {p:wK} {s:qU} (h:qZ p s=true) :∀k,qZ p (aE p s k).1=true∧0≤(aE p s k).2∧(aE p s k).2≤4*k
 | 0=>⟨h,by simp [aE],by simp [aE]⟩
 | k+1=>by
  have ih:=qOe h k
  have h4:=(qFy h).2
  have:=pQ (p:=p) (st:=aE p s k) (n:=4*k) ih.1 ih.2.1 ih.2.2 p.bods.length
  simp only [aE]
  refine ⟨this.1,this.2.1,?_⟩
  have:=this.2.2
  push_cast at this⊢
  omega
def wBs (p:wK) (M:qQ) (i:Nat):Bool:=decide ((qI M i).st=0)&&!wAi p M i
def rst (p:wK) (i:Nat):Nat→qQ→qQ
 | 0,M=>M
 | n+1,M=>if wBs p M i then rst p i n (jD M ⟨i,0⟩).1 else M
def wC5 (p:wK) (l:List Nat) (M:qQ):qQ:=l.foldl (fun M i=>rst p i 40 M) M
def w00:yA:=⟨0,z24⟩
def wC8:List (List yA):=wCm 24 [w00]
def z8:List Int:=wCm 8 0
@[simp] theorem wC4:z8.length=8:=rfl
def k00:uH:=⟨0,z8,z24,0⟩
def qSg (l:List (List jB)):qQ:=⟨l,wCm l.length k00,⟨wC8⟩,[]⟩
attribute [simp] qSg
attribute [go_sem] qSg
theorem qJe (f:Nat→Nat) (l:List bM):eC f (jC l)=jC l:=cC f _ ((bC l).2 trivial)
theorem qTx {A:Nat→Prop} (l:List bM):okR A (jC l)↔True:=by simp [eF _ ((bC l).2 trivial)]
theorem qIw (f:Nat→Nat) (l:List jB):eC f (gQ l)=gQ l:=cC f _ ((hY l).2 trivial)
theorem qTc {A:Nat→Prop} (l:List jB):okR A (gQ l)↔True:=by simp [eF _ ((hY l).2 trivial)]
attribute [go_sem] qJe qIw
attribute [simp] qJe qIw qTx qTc
@[simp] def wCb (m:qQ) (j:Nat):FP:=[(0,some (1,(codes .own m.codes).set j [.ns 4 0 (m.codes.getD j []).length]),some (1,(codes .own m.codes).set j [.ns 4 0 (m.codes.getD j []).length])),(1,some (4,cores .own m.cores),some (4,cores .own m.cores)),(2,some (1,zH .own m.mem.cells),some (1,zH .own m.mem.cells)),(3,some (2,jC m.tr),some (2,jC m.tr)),(4,some (5,gQ (m.codes.getD j [])),some (5,gQ (m.codes.getD j [])))]
attribute [go_sem] wCb
def jM (cs:List (List yA)) (c:Nat):Int:=((cs.getD c []).getD ((cs.getD c []).length-1) default).v
def qSb:jU:=⟨0,[],false⟩
def qOq (cs:List (List yA)) (b:Nat) (room f:Int) (k:Nat):List Int:=(List.range k).map fun (i:Nat)=>jM cs (b+4+((f+(i:Int))%room).toNat)
theorem qM4 (cs:List (List yA)) (b:Nat) (room f:Int) (k:Nat):(qOq cs b room f k).length=k:=by simp [qOq]
def qQz (cs:List (List yA)) (b:Nat) (room:Int):jU×Bool :=
 if qR (jM cs (b+1)) 0 (room-1)&&qR (jM cs (b+2)) 0 room&&qR (jM cs (b+3)) 0 1 then
  (⟨room,qOq cs b room (jM cs (b+1)) (jM cs (b+2)).toNat,decide (jM cs (b+3)=1)⟩,true)
 else (qSb,false)
def qCq (cs:List (List yA)) (caps:List Int) (n:Int):jU×Bool :=
 if !decide (base caps n<0)&&pD cs then qQz cs (base caps n).toNat (caps.getD n.toNat 0) else (qSb,false)
def qEr (cs:List (List yA)) (caps:List Int) (n:Int):Bool:=decide (0≤base caps n)&&pD cs&&!decide (jM cs (base caps n).toNat=0)
end Go.Sep
