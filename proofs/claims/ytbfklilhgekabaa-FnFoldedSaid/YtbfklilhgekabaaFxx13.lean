/- Contracts of functions. -/
import Derived.Test.YtbfklilhgekabaaFxx12
open Nat renaming le_succ → wBm
namespace Go.Sep
set_option maxHeartbeats 16000000
open Go.Proofs
set_option linter.unusedSimpArgs false
set_option linter.unusedVariables false
set_option maxRecDepth 100000
def qGm (m:qR) (n:Nat):Prop :=∀c,c<24→(m.mem.cells.getD c []).length+n≤4000
theorem qGm.le {m:qR} {n k:Nat} (h:qGm m n) (hk:k≤n):qGm m k:=fun c hc=>by have:=h c hc; omega
theorem qNr (cs:List (List yC)) (K:uL) (t:jA) (c:Nat) (late:Int) (d:Nat) (hc:c<cs.length):((dL cs K t c late).1.getD d []).length≤(cs.getD d []).length+1:=by
 have hst :∀v vw go,((store cs vw c v go).1.getD d []).length≤(cs.getD d []).length+1:=by
  intro v vw go
  rw [tR]
  simp only
  rw [xB _ hc]
  split
  ·rename_i e
   rw [e]
   simp
  ·omega
 unfold dL
 split
 ·simp only
  omega
 split
 ·exact hst _ _ _
 ·exact hst _ _ _
theorem qUe {m:qR} (hM:MOk m) (i:Nat) (late:Int) (d:Nat):((mdo m i late).mem.cells.getD d []).length≤(m.mem.cells.getD d []).length+1:=by
 have hg :∀(M:qR) (K:uL) (n:Int),(qHg M i K n).mem=M.mem:=fun M K n=>by unfold qHg dQ; split<;>rfl
 unfold mdo
 simp only
 split
 ·exact wBm _
 split
 ·exact wBm _
 split
 ·split
  ·rename_i hw
   rw [hg]
   rw [qK] at hw
   exact qNr _ _ _ _ _ _ (by rw [hM.mem.len]; omega)
  ·exact wBm _
 split
 ·rw [hg]
  exact wBm _
 ·rw [hg]
  exact wBm _
theorem qGm.step {m:qR} {n:Nat} (h:qGm m (n+1)) (hM:MOk m) (x:qL6):qGm (jJ m x).1 n:=by
 intro c hc
 have h1:=h c hc
 unfold jJ
 split
 ·have:=qUe hM x.who.toNat x.late c
  simp only
  omega
 ·simp only
  omega
theorem qGm.rst {p:wV} {i:Nat} :∀(n k:Nat) {m:qR},fG m=true→qGm m (n+k)→qGm (rst p i n m) k
 | 0,k,m,hM,h=>by rw [Nat.zero_add] at h; exact h
 | n+1,k,m,hM,h=>by
  unfold Go.Sep.rst
  split
  ·exact qGm.rst n k (oK _ hM) (qGm.step (n:=n+k) (by rw [show n+k+1=n+1+k by omega]; exact h) ((jX m).1 hM) _)
  ·exact h.le (by omega)
def oG (k:Int):List Ins:=[⟨1,1,0,0,1⟩,⟨1,2,0,0,k⟩,⟨5,0,0,0,0⟩,⟨2,0,0,1,0⟩,⟨4,3,0,2,0⟩,⟨12,0,3,0,7⟩,⟨11,0,0,0,2⟩,⟨9,0,0,0,0⟩,⟨13,0,0,0,0⟩]
def rT:List Ins:=[⟨6,0,0,1,0⟩,⟨12,0,1,0,4⟩,⟨10,0,0,0,0⟩,⟨11,0,0,0,0⟩,⟨13,0,0,0,0⟩]
def zR (n k:Int):wV:=⟨[n],[oG k,rT]⟩
def iY (a b:Nat):List Int:=(List.range (b-a)).map fun i=>((a+i:Nat):Int)
theorem qLc (a b:Nat):(iY a b).length=b-a:=by simp [iY]
theorem qRb {a b:Nat} (h:a≤b):iY a b++[(b:Int)]=iY a (b+1):=by
 unfold iY
 rw [show b+1-a=(b-a)+1 by omega,List.range_succ,List.map_append]
 simp
 omega
theorem qRc {a b:Nat} (h:a<b):iY a b=(a:Int)::iY (a+1) b:=by
 unfold iY
 obtain ⟨d,hd⟩ :∃d,b-a=d+1:=⟨b-a-1,by omega⟩
 rw [hd,show b-(a+1)=d by omega,List.range_succ_eq_map]
 simp
 intro i _
 omega
def qQm (q:Nat):List gJ:=(List.range q).map fun (i:Nat)=>⟨1,(i:Int)⟩
theorem qOc (q:Nat):qQm q++[⟨1,(q:Int)⟩]=qQm (q+1):=by
 unfold qQm
 rw [List.range_succ,List.map_append]
 rfl
def qYp (k a:Nat) (t:yS) (cl:Bool):Prop :=
 (t.st=0∧cl=false∧(
  (t.at_=0∧t.regs=[0,0,0,0]∧a=0)∨(t.at_=1∧t.regs=[0,1,0,0]∧a=0)∨
  (∃z:Int,t.at_=2∧t.regs=[(a:Int),1,(k:Int),z]∧a<k)∨(∃z:Int,t.at_=3∧t.regs=[(a:Int)-1,1,(k:Int),z]∧1≤a∧a≤k)∨
  (∃z:Int,t.at_=4∧t.regs=[(a:Int),1,(k:Int),z]∧1≤a∧a≤k)∨(t.at_=5∧t.regs=[(a:Int),1,(k:Int),uK (decide (a<k))]∧1≤a∧a≤k)∨
  (∃z:Int,t.at_=6∧t.regs=[(a:Int),1,(k:Int),z]∧a<k)∨(∃z:Int,t.at_=7∧t.regs=[(a:Int),1,(k:Int),z]∧a=k)))∨
 (cl=true∧a=k∧t.at_=8∧t.regs.length=4∧(t.st=0∨t.st=1))
def qU0 (k a x q:Nat) (t:yS) (cl:Bool):Prop :=
 ∃r0 r1 r2 r3:Int,t.regs=[r0,r1,r2,r3]∧
  ((t.st=0∧((t.at_=0∧x=q)∨(t.at_=1∧((r1=1∧r0=q∧x=q+1)∨(r1=0∧x=q∧cl=true∧x=a)))∨(t.at_=2∧r0=q∧x=q+1)∨(t.at_=3∧x=q)∨(t.at_=4∧x=q∧cl=true∧x=a)))∨
   (t.st=1∧t.at_=4∧x=q∧cl=true∧x=a))
structure Ord (n k:Nat) (s:qV):Prop where
 has :∃a x q:Nat,∃tA tB:yS,∃cl:Bool,s.ths=[tA,tB]∧s.chs=[⟨n,iY x a,cl⟩]∧s.tr=qQm q∧x≤a∧a≤k∧qYp k a tA cl∧qU0 k a x q tB cl
theorem qRx {k a x q:Nat} {t:yS} (h:qU0 k a x q t false) (a':Nat):qU0 k a' x q t false:=by
 obtain ⟨r0,r1,r2,r3,e,h⟩:=h
 refine ⟨r0,r1,r2,r3,e,?_⟩
 rcases h with ⟨h0,h⟩ | ⟨h0,h1,h2,h3,h4⟩
 ·left
  refine ⟨h0,?_⟩
  rcases h with h | ⟨h1,h⟩ | h | h | ⟨h1,h2,h3,h4⟩
  ·exact .inl h
  ·rcases h with h | ⟨_,_,h,_⟩
   ·exact .inr (.inl ⟨h1,.inl h⟩)
   ·exact absurd h (by decide)
  ·exact .inr (.inr (.inl h))
  ·exact .inr (.inr (.inr (.inl h)))
  ·exact absurd h3 (by decide)
 ·exact absurd h3 (by decide)
theorem qRw {k a x q:Nat} {t:yS} (h:qU0 k a x q t false):qU0 k a x q t true:=by
 obtain ⟨r0,r1,r2,r3,e,h⟩:=h
 refine ⟨r0,r1,r2,r3,e,?_⟩
 rcases h with ⟨h0,h⟩ | ⟨h0,h1,h2,h3,h4⟩
 ·left
  refine ⟨h0,?_⟩
  rcases h with h | ⟨h1,h⟩ | h | h | ⟨h1,h2,h3,h4⟩
  ·exact .inl h
  ·rcases h with h | ⟨_,_,h,_⟩
   ·exact .inr (.inl ⟨h1,.inl h⟩)
   ·exact absurd h (by decide)
  ·exact .inr (.inr (.inl h))
  ·exact .inr (.inr (.inr (.inl h)))
  ·exact absurd h3 (by decide)
 ·exact absurd h3 (by decide)
theorem Ord.step {n k:Nat} {s:qV} (hn:1≤n) (hn4:n≤4) (hk1:1≤k) (hk:k≤7) (h:Ord n k s) (hsrc:wF (zR n k) s=true) (who:Int):Ord n k (qY (zR n k) s who).1:=by
 obtain ⟨a,x,q,tA,tB,cl,h1,h2,h3,h4,h5,h6,h7⟩:=h.has
 obtain ⟨ths,chs,tr⟩:=s
 simp only at h1 h2 h3
 subst h1 h2 h3
 have hco:jQ ⟨n,iY x a,cl⟩=true:=(((yY _ _).1 hsrc).2.2.2.2.2 0 (by simp)).1
 clear hsrc
 unfold qY
 split
 case isFalse=>exact h
 rename_i hcode
 obtain ⟨w0,w1⟩:=qDv hcode
 obtain ⟨i,rfl⟩:=Int.eq_ofNat_of_zero_le w0
 simp only [Int.toNat_natCast,List.length_cons,List.length_nil] at w1⊢
 clear w0
 have hi:i=0∨i=1:=by omega
 rcases hi with rfl | rfl
 ·
  obtain ⟨at_,regs,st⟩:=tA
  rcases h6 with ⟨e1,e2,h6⟩ | ⟨e1,e2,e3,e4,e5⟩
  ·simp only at e1 h6
   subst e1 e2
   rcases h6 with ⟨b1,b2,b3⟩ | ⟨b1,b2,b3⟩ | ⟨z,b1,b2,b3⟩ | ⟨z,b1,b2,b3,b4⟩ | ⟨z,b1,b2,b3,b4⟩ | ⟨b1,b2,b3,b4⟩ | ⟨z,b1,b2,b3⟩ | ⟨z,b1,b2,b3⟩
   all_goals subst b1 b2
   ·subst b3
    refine ⟨0,x,q,⟨1,[0,1,0,0],0⟩,tB,false,?_,rfl,rfl,h4,h5,.inl ⟨rfl,rfl,.inr (.inl ⟨rfl,rfl,rfl⟩)⟩,h7⟩
    simp [wQ,ins,zR,oG,vV,wY]
   ·subst b3
    refine ⟨0,x,q,⟨2,[0,1,k,0],0⟩,tB,false,?_,rfl,rfl,h4,h5,.inl ⟨rfl,rfl,.inr (.inr (.inl ⟨0,rfl,rfl,by omega⟩))⟩,h7⟩
    simp [wQ,ins,zR,oG,vV,wY]
   ·
    have hfull :¬((iY x a).length:Int)=n:=by
     intro e
     simp [wW,ins,zR,oG,qO,e] at hcode
    have hs:yH ⟨n,iY x a,false⟩ a=(⟨n,iY x (a+1),false⟩,0):=by
     unfold yH
     rw [hco]
     simp only [Bool.not_true,Bool.or_false,if_false,Bool.false_eq_true]
     rw [if_neg hfull,qRb h4]
    refine ⟨a+1,x,q,⟨3,[a,1,k,z],0⟩,tB,false,?_,?_,?_,by omega,by omega,.inl ⟨rfl,rfl,.inr (.inr (.inr (.inl ⟨z,rfl,by simp,by omega,by omega⟩)))⟩,qRx h7 _⟩
    ·simp [wQ,ins,zR,oG,vV,qZ,reg,hs]
    ·simp [wQ,ins,zR,oG,vV,qZ,reg,hs]
    ·simp [wQ,ins,zR,oG,vV,qZ,reg,hs]
   ·refine ⟨a,x,q,⟨4,[a,1,k,z],0⟩,tB,false,?_,rfl,rfl,h4,h5,.inl ⟨rfl,rfl,.inr (.inr (.inr (.inr (.inl ⟨z,rfl,rfl,b3,b4⟩))))⟩,h7⟩
    have hw:IntKind.i64.wrap (a:Int)=a:=jD (by omega) (by omega)
    simp [wQ,ins,zR,oG,vV,wY,reg,jS,hw]
   ·refine ⟨a,x,q,⟨5,[a,1,k,uK (decide (a<k))],0⟩,tB,false,?_,rfl,rfl,h4,h5,.inl ⟨rfl,rfl,.inr (.inr (.inr (.inr (.inr (.inl ⟨rfl,rfl,b3,b4⟩)))))⟩,h7⟩
    simp [wQ,ins,zR,oG,vV,wY,reg,jS]
   ·by_cases hak:a<k
    ·refine ⟨a,x,q,⟨6,[a,1,k,uK (decide (a<k))],0⟩,tB,false,?_,?_,?_,h4,h5,.inl ⟨rfl,rfl,.inr (.inr (.inr (.inr (.inr (.inr (.inl ⟨_,rfl,rfl,hak⟩))))))⟩,h7⟩
     all_goals simp [wQ,ins,zR,oG,vV,reg,hak,uK]
    ·refine ⟨a,x,q,⟨7,[a,1,k,uK (decide (a<k))],0⟩,tB,false,?_,?_,?_,h4,h5,.inl ⟨rfl,rfl,.inr (.inr (.inr (.inr (.inr (.inr (.inr ⟨_,rfl,rfl,by omega⟩))))))⟩,h7⟩
     all_goals simp [wQ,ins,zR,oG,vV,reg,hak,uK]
   ·refine ⟨a,x,q,⟨2,[a,1,k,z],0⟩,tB,false,?_,rfl,rfl,h4,h5,.inl ⟨rfl,rfl,.inr (.inr (.inl ⟨z,rfl,rfl,b3⟩))⟩,h7⟩
    simp [wQ,ins,zR,oG,vV]
   ·have hs:vL ⟨n,iY x a,false⟩=(⟨n,iY x a,true⟩,0):=by
     unfold vL
     rw [hco]
     rfl
    refine ⟨a,x,q,⟨8,[a,1,k,z],0⟩,tB,true,?_,?_,?_,h4,h5,.inr ⟨rfl,b3,rfl,rfl,.inl rfl⟩,qRw h7⟩
    ·simp [wQ,ins,zR,oG,vV,qZ,hs]
    ·simp [wQ,ins,zR,oG,vV,qZ,hs]
    ·simp [wQ,ins,zR,oG,vV,qZ,hs]
  ·simp only at e3 e4 e5
   subst e1 e3
   rcases e5 with e5 | e5
   ·subst e5
    refine ⟨a,x,q,⟨8,regs,1⟩,tB,true,?_,?_,?_,h4,h5,.inr ⟨rfl,e2,rfl,e4,.inr rfl⟩,h7⟩
    all_goals simp [wQ,ins,zR,oG]
   ·exfalso
    subst e5
    simp [wW,ins,zR,oG,qO] at hcode
 ·
  obtain ⟨at_,regs,st⟩:=tB
  obtain ⟨r0,r1,r2,r3,c0,h7⟩:=h7
  simp only at c0 h7
  subst c0
  rcases h7 with ⟨e0,h7⟩ | ⟨e0,h7⟩
  ·subst e0
   rcases h7 with ⟨b1,b2⟩ | ⟨b1,b2⟩ | ⟨b1,b2,b3⟩ | ⟨b1,b2⟩ | ⟨b1,b2,b3,b4⟩
   all_goals subst b1
   ·
    subst b2
    by_cases hemp:x<a
    ·have hs:wP ⟨n,iY x a,cl⟩=((⟨n,iY (x+1) a,cl⟩:vF),((x:Nat):Int),(0:Int)):=by
      unfold wP
      rw [hco]
      simp only [Bool.not_true,if_false,Bool.false_eq_true]
      rw [if_pos (by rw [qLc]; omega),qRc hemp]
      rfl
     refine ⟨a,x+1,x,tA,⟨1,[x,1,r2,r3],0⟩,cl,?_,?_,?_,by omega,h5,h6,⟨x,1,r2,r3,rfl,.inl ⟨rfl,.inr (.inl ⟨rfl,.inl ⟨rfl,rfl,rfl⟩⟩)⟩⟩⟩
     ·simp [wQ,ins,zR,rT,vV,qZ,wY,hs,uK]
     ·simp [wQ,ins,zR,rT,vV,qZ,wY,hs,uK]
     ·simp [wQ,ins,zR,rT,vV,qZ,wY,hs,uK]
    ·have hxa:x=a:=by omega
     subst hxa
     have hlz:iY x x=[]:=by simp [iY]
     cases cl
     ·exfalso
      simp [wW,ins,zR,rT,qO,hlz] at hcode
     have hs:wP ⟨n,iY x x,true⟩=(⟨n,iY x x,true⟩,0,3):=by
      unfold wP
      rw [hco,hlz]
      rfl
     refine ⟨x,x,x,tA,⟨1,[0,0,r2,r3],0⟩,true,?_,?_,?_,Nat.le_refl _,h5,h6,⟨0,0,r2,r3,rfl,.inl ⟨rfl,.inr (.inl ⟨rfl,.inr ⟨rfl,rfl,rfl,rfl⟩⟩)⟩⟩⟩
     ·simp [wQ,ins,zR,rT,vV,qZ,wY,hs,uK]
     ·simp [wQ,ins,zR,rT,vV,qZ,wY,hs,uK]
     ·simp [wQ,ins,zR,rT,vV,qZ,wY,hs,uK]
   ·rcases b2 with ⟨d1,d2,d3⟩ | ⟨d1,d2,d3,d4⟩
    ·subst d1 d2 d3
     refine ⟨a,q+1,q,tA,⟨2,[q,1,r2,r3],0⟩,cl,?_,rfl,rfl,h4,h5,h6,⟨q,1,r2,r3,rfl,.inl ⟨rfl,.inr (.inr (.inl ⟨rfl,rfl,rfl⟩))⟩⟩⟩
     simp [wQ,ins,zR,rT,vV,reg]
    ·subst d1 d2 d3
     refine ⟨a,x,x,tA,⟨4,[r0,0,r2,r3],0⟩,true,?_,rfl,rfl,h4,h5,h6,⟨r0,0,r2,r3,rfl,.inl ⟨rfl,.inr (.inr (.inr (.inr ⟨rfl,rfl,rfl,d4⟩)))⟩⟩⟩
     simp [wQ,ins,zR,rT,vV,reg]
   ·subst b2 b3
    refine ⟨a,q+1,q+1,tA,⟨3,[q,r1,r2,r3],0⟩,cl,?_,?_,?_,h4,h5,h6,⟨q,r1,r2,r3,rfl,.inl ⟨rfl,.inr (.inr (.inr (.inl ⟨rfl,rfl⟩)))⟩⟩⟩
    ·simp [wQ,ins,zR,rT,vV,reg]
    ·simp [wQ,ins,zR,rT,vV,reg]
    ·rw [←qOc]
     simp [wQ,ins,zR,rT,vV,reg]
   ·subst b2
    refine ⟨a,x,x,tA,⟨0,[r0,r1,r2,r3],0⟩,cl,?_,rfl,rfl,h4,h5,h6,⟨r0,r1,r2,r3,rfl,.inl ⟨rfl,.inl ⟨rfl,rfl⟩⟩⟩⟩
    simp [wQ,ins,zR,rT,vV]
   ·subst b2 b3
    refine ⟨a,x,x,tA,⟨4,[r0,r1,r2,r3],1⟩,true,?_,rfl,rfl,h4,h5,h6,⟨r0,r1,r2,r3,rfl,.inr ⟨rfl,rfl,rfl,rfl,b4⟩⟩⟩
    simp [wQ,ins,zR,rT]
  ·exfalso
   subst e0
   simp [wW,ins,zR,rT,qO] at hcode
theorem Ord.new {n k:Nat} (hn:1≤n) (hn4:n≤4) (h:yT (zR n k)=true):Ord n k (yP (zR n k)).1:=by
 unfold yP
 rw [if_pos h]
 refine ⟨0,0,0,zX,zX,false,rfl,rfl,rfl,Nat.le_refl _,Nat.zero_le _,.inl ⟨rfl,rfl,.inl ⟨rfl,rfl,rfl⟩⟩,⟨0,0,0,0,rfl,.inl ⟨rfl,.inl ⟨rfl,rfl⟩⟩⟩⟩
def iD (p:wV) (Q:qV→Prop) (m:qR):Prop :=∃s,Inv p m s∧Q s
theorem iD.pick {p:wV} {Q:qV→Prop} (hQ :∀s who,wF p s=true→Q s→Q (qY p s who).1) {m:qR} (h:iD p Q m) (x:qL6):iD p Q (jJ m x).1:=by
 obtain ⟨s,h1,h2⟩:=h
 rcases h1.pick x with ⟨_,h3⟩ | ⟨_,_,h3⟩
 ·exact ⟨s,h3,h2⟩
 ·exact ⟨_,h3,hQ s x.who h1.src h2⟩
theorem iD.rst {p:wV} {Q:qV→Prop} (hQ :∀s who,wF p s=true→Q s→Q (qY p s who).1) (i:Nat) :∀(n:Nat) {m:qR},iD p Q m→iD p Q (rst p i n m)
 | 0,_,h=>h
 | n+1,m,h=>by
  unfold Go.Sep.rst
  split
  ·exact iD.rst hQ i n (h.pick hQ ⟨i,0⟩)
  ·exact h
theorem iD.row {p:wV} {Q:qV→Prop} (hQ :∀s who,wF p s=true→Q s→Q (qY p s who).1) :∀(l:List Nat) {m:qR},iD p Q m→iD p Q (qYo p l m)
 | [],_,h=>h
 | i::l,m,h=>iD.row hQ l (m:=Go.Sep.rst p i 40 m) (h.rst hQ i 40)
theorem Inv.over {p:wV} {m:qR} {s:qV} (h:Inv p m s) {i:Nat} (hi:i<m.cores.length) (hst:(qI m i).st≠0):(thd s i).st≠0:=by
 obtain ⟨own,hC,_⟩:=h.own
 cases hC i hi with
 | over h1 hs ho=>rw [hs]; exact h1
 | out k h1 _ _ _ _ _=>exact absurd h1 hst
 | inner j n N a e fl hj hx hn hc _ _ _ _ _ _ _ _ _=>exact absurd hc.st hst
end Go.Sep
