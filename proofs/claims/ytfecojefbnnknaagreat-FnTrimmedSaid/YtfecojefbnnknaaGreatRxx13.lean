/- Contracts of functions. -/
import Derived.Test.YtfecojefbnnknaaGreatRxx12
open Nat renaming le_succ → wDr
namespace Go.Sep
set_option maxHeartbeats 16000000
open Go.Proofs
set_option linter.unusedSimpArgs false
set_option linter.unusedVariables false
set_option maxRecDepth 100000
def qH0 (m:qT) (n:Nat):Prop :=∀c,c<24→(m.mem.cells.getD c []).length+n≤4000
theorem qH0.le {m:qT} {n k:Nat} (h:qH0 m n) (hk:k≤n):qH0 m k:=fun c hc=>by have:=h c hc; omega
theorem qP2 (cs:List (List wZ)) (K:uL) (t:jB) (c:Nat) (late:Int) (d:Nat) (hc:c<cs.length):((dM cs K t c late).1.getD d []).length≤(cs.getD d []).length+1:=by
 have hst :∀v vw go,((store cs vw c v go).1.getD d []).length≤(cs.getD d []).length+1:=by
  intro v vw go
  rw [tT]
  simp only
  rw [zY _ hc]
  split
  ·rename_i e
   rw [e]
   simp
  ·omega
 unfold dM
 split
 ·simp only
  omega
 split
 ·exact hst _ _ _
 ·exact hst _ _ _
theorem qW5 {m:qT} (hM:MOk m) (i:Nat) (late:Int) (d:Nat):((mdo m i late).mem.cells.getD d []).length≤(m.mem.cells.getD d []).length+1:=by
 have hg :∀(M:qT) (K:uL) (n:Int),(qHt M i K n).mem=M.mem:=fun M K n=>by unfold qHt dQ; split<;>rfl
 unfold mdo
 simp only
 split
 ·exact wDr _
 split
 ·exact wDr _
 split
 ·split
  ·rename_i hw
   rw [hg]
   rw [qL] at hw
   exact qP2 _ _ _ _ _ _ (by rw [hM.mem.len]; omega)
  ·exact wDr _
 split
 ·rw [hg]
  exact wDr _
 ·rw [hg]
  exact wDr _
theorem qH0.step {m:qT} {n:Nat} (h:qH0 m (n+1)) (hM:MOk m) (x:qDz):qH0 (jD m x).1 n:=by
 intro c hc
 have h1:=h c hc
 unfold jD
 split
 ·have:=qW5 hM x.who.toNat x.late c
  simp only
  omega
 ·simp only
  omega
theorem qH0.rst {p:wQ} {i:Nat} :∀(n k:Nat) {m:qT},fD m=true→qH0 m (n+k)→qH0 (rst p i n m) k
 | 0,k,m,hM,h=>by rw [Nat.zero_add] at h; exact h
 | n+1,k,m,hM,h=>by
  unfold Go.Sep.rst
  split
  ·exact qH0.rst n k (oI _ hM) (qH0.step (n:=n+k) (by rw [show n+k+1=n+1+k by omega]; exact h) ((vC m).1 hM) _)
  ·exact h.le (by omega)
def oD (k:Int):List Ins:=[⟨1,1,0,0,1⟩,⟨1,2,0,0,k⟩,⟨5,0,0,0,0⟩,⟨2,0,0,1,0⟩,⟨4,3,0,2,0⟩,⟨12,0,3,0,7⟩,⟨11,0,0,0,2⟩,⟨9,0,0,0,0⟩,⟨13,0,0,0,0⟩]
def rP:List Ins:=[⟨6,0,0,1,0⟩,⟨12,0,1,0,4⟩,⟨10,0,0,0,0⟩,⟨11,0,0,0,0⟩,⟨13,0,0,0,0⟩]
def dZ (n k:Int):wQ:=⟨[n],[oD k,rP]⟩
def iW (a b:Nat):List Int:=(List.range (b-a)).map fun i=>((a+i:Nat):Int)
theorem qM9 (a b:Nat):(iW a b).length=b-a:=by simp [iW]
theorem qSr {a b:Nat} (h:a≤b):iW a b++[(b:Int)]=iW a (b+1):=by
 unfold iW
 rw [show b+1-a=(b-a)+1 by omega,List.range_succ,List.map_append]
 simp
 omega
theorem qSs {a b:Nat} (h:a<b):iW a b=(a:Int)::iW (a+1) b:=by
 unfold iW
 obtain ⟨d,hd⟩ :∃d,b-a=d+1:=⟨b-a-1,by omega⟩
 rw [hd,show b-(a+1)=d by omega,List.range_succ_eq_map]
 simp
 intro i _
 omega
def qRy (q:Nat):List bP:=(List.range q).map fun (i:Nat)=>⟨1,(i:Int)⟩
theorem qPp (q:Nat):qRy q++[⟨1,(q:Int)⟩]=qRy (q+1):=by
 unfold qRy
 rw [List.range_succ,List.map_append]
 rfl
def wB4 (k a:Nat) (t:yP) (cl:Bool):Prop :=
 (t.st=0∧cl=false∧(
  (t.at_=0∧t.regs=[0,0,0,0]∧a=0)∨(t.at_=1∧t.regs=[0,1,0,0]∧a=0)∨
  (∃z:Int,t.at_=2∧t.regs=[(a:Int),1,(k:Int),z]∧a<k)∨(∃z:Int,t.at_=3∧t.regs=[(a:Int)-1,1,(k:Int),z]∧1≤a∧a≤k)∨
  (∃z:Int,t.at_=4∧t.regs=[(a:Int),1,(k:Int),z]∧1≤a∧a≤k)∨(t.at_=5∧t.regs=[(a:Int),1,(k:Int),vV (decide (a<k))]∧1≤a∧a≤k)∨
  (∃z:Int,t.at_=6∧t.regs=[(a:Int),1,(k:Int),z]∧a<k)∨(∃z:Int,t.at_=7∧t.regs=[(a:Int),1,(k:Int),z]∧a=k)))∨
 (cl=true∧a=k∧t.at_=8∧t.regs.length=4∧(t.st=0∨t.st=1))
def qVt (k a x q:Nat) (t:yP) (cl:Bool):Prop :=
 ∃r0 r1 r2 r3:Int,t.regs=[r0,r1,r2,r3]∧
  ((t.st=0∧((t.at_=0∧x=q)∨(t.at_=1∧((r1=1∧r0=q∧x=q+1)∨(r1=0∧x=q∧cl=true∧x=a)))∨(t.at_=2∧r0=q∧x=q+1)∨(t.at_=3∧x=q)∨(t.at_=4∧x=q∧cl=true∧x=a)))∨
   (t.st=1∧t.at_=4∧x=q∧cl=true∧x=a))
structure Ord (n k:Nat) (s:wA):Prop where
 has :∃a x q:Nat,∃tA tB:yP,∃cl:Bool,s.ths=[tA,tB]∧s.chs=[⟨n,iW x a,cl⟩]∧s.tr=qRy q∧x≤a∧a≤k∧wB4 k a tA cl∧qVt k a x q tB cl
theorem qTi {k a x q:Nat} {t:yP} (h:qVt k a x q t false) (a':Nat):qVt k a' x q t false:=by
 obtain ⟨r0,r1,r2,r3,e,h⟩:=h
 refine ⟨r0,r1,r2,r3,e,?_⟩
 rcases h with ⟨h0,h⟩ | ⟨h0,h1,h2,h3,h4⟩
 ·left
  refine ⟨h0,?_⟩
  rcases h with h | ⟨h1,h⟩ | h | h | ⟨h1,h2,h3,h4⟩
  ·exact .inl h
  ·rcases h with h | ⟨_,_,h,_⟩
   ·exact .inr (.inl ⟨h1,.inl h⟩)
   ·exact absurd h (by decide)
  ·exact .inr (.inr (.inl h))
  ·exact .inr (.inr (.inr (.inl h)))
  ·exact absurd h3 (by decide)
 ·exact absurd h3 (by decide)
theorem qTh {k a x q:Nat} {t:yP} (h:qVt k a x q t false):qVt k a x q t true:=by
 obtain ⟨r0,r1,r2,r3,e,h⟩:=h
 refine ⟨r0,r1,r2,r3,e,?_⟩
 rcases h with ⟨h0,h⟩ | ⟨h0,h1,h2,h3,h4⟩
 ·left
  refine ⟨h0,?_⟩
  rcases h with h | ⟨h1,h⟩ | h | h | ⟨h1,h2,h3,h4⟩
  ·exact .inl h
  ·rcases h with h | ⟨_,_,h,_⟩
   ·exact .inr (.inl ⟨h1,.inl h⟩)
   ·exact absurd h (by decide)
  ·exact .inr (.inr (.inl h))
  ·exact .inr (.inr (.inr (.inl h)))
  ·exact absurd h3 (by decide)
 ·exact absurd h3 (by decide)
theorem Ord.step {n k:Nat} {s:wA} (hn:1≤n) (hn4:n≤4) (hk1:1≤k) (hk:k≤7) (h:Ord n k s) (hsrc:wG (dZ n k) s=true) (who:Int):Ord n k (qX (dZ n k) s who).1:=by
 obtain ⟨a,x,q,tA,tB,cl,h1,h2,h3,h4,h5,h6,h7⟩:=h.has
 obtain ⟨ths,chs,tr⟩:=s
 simp only at h1 h2 h3
 subst h1 h2 h3
 have hco:jT ⟨n,iW x a,cl⟩=true:=(((jE _ _).1 hsrc).2.2.2.2.2 0 (by simp)).1
 clear hsrc
 unfold qX
 split
 case isFalse=>exact h
 rename_i hcode
 obtain ⟨w0,w1⟩:=qEe hcode
 obtain ⟨i,rfl⟩:=Int.eq_ofNat_of_zero_le w0
 simp only [Int.toNat_natCast,List.length_cons,List.length_nil] at w1⊢
 clear w0
 have hi:i=0∨i=1:=by omega
 rcases hi with rfl | rfl
 ·
  obtain ⟨at_,regs,st⟩:=tA
  rcases h6 with ⟨e1,e2,h6⟩ | ⟨e1,e2,e3,e4,e5⟩
  ·simp only at e1 h6
   subst e1 e2
   rcases h6 with ⟨b1,b2,b3⟩ | ⟨b1,b2,b3⟩ | ⟨z,b1,b2,b3⟩ | ⟨z,b1,b2,b3,b4⟩ | ⟨z,b1,b2,b3,b4⟩ | ⟨b1,b2,b3,b4⟩ | ⟨z,b1,b2,b3⟩ | ⟨z,b1,b2,b3⟩
   all_goals subst b1 b2
   ·subst b3
    refine ⟨0,x,q,⟨1,[0,1,0,0],0⟩,tB,false,?_,rfl,rfl,h4,h5,.inl ⟨rfl,rfl,.inr (.inl ⟨rfl,rfl,rfl⟩)⟩,h7⟩
    simp [wN,ins,dZ,oD,vQ,wV]
   ·subst b3
    refine ⟨0,x,q,⟨2,[0,1,k,0],0⟩,tB,false,?_,rfl,rfl,h4,h5,.inl ⟨rfl,rfl,.inr (.inr (.inl ⟨0,rfl,rfl,by omega⟩))⟩,h7⟩
    simp [wN,ins,dZ,oD,vQ,wV]
   ·
    have hfull :¬((iW x a).length:Int)=n:=by
     intro e
     simp [wU,ins,dZ,oD,qW,e] at hcode
    have hs:yD ⟨n,iW x a,false⟩ a=(⟨n,iW x (a+1),false⟩,0):=by
     unfold yD
     rw [hco]
     simp only [Bool.not_true,Bool.or_false,if_false,Bool.false_eq_true]
     rw [if_neg hfull,qSr h4]
    refine ⟨a+1,x,q,⟨3,[a,1,k,z],0⟩,tB,false,?_,?_,?_,by omega,by omega,.inl ⟨rfl,rfl,.inr (.inr (.inr (.inl ⟨z,rfl,by simp,by omega,by omega⟩)))⟩,qTi h7 _⟩
    ·simp [wN,ins,dZ,oD,vQ,wC,reg,hs]
    ·simp [wN,ins,dZ,oD,vQ,wC,reg,hs]
    ·simp [wN,ins,dZ,oD,vQ,wC,reg,hs]
   ·refine ⟨a,x,q,⟨4,[a,1,k,z],0⟩,tB,false,?_,rfl,rfl,h4,h5,.inl ⟨rfl,rfl,.inr (.inr (.inr (.inr (.inl ⟨z,rfl,rfl,b3,b4⟩))))⟩,h7⟩
    have hw:IntKind.i64.wrap (a:Int)=a:=yL (by omega) (by omega)
    simp [wN,ins,dZ,oD,vQ,wV,reg,xZ,hw]
   ·refine ⟨a,x,q,⟨5,[a,1,k,vV (decide (a<k))],0⟩,tB,false,?_,rfl,rfl,h4,h5,.inl ⟨rfl,rfl,.inr (.inr (.inr (.inr (.inr (.inl ⟨rfl,rfl,b3,b4⟩)))))⟩,h7⟩
    simp [wN,ins,dZ,oD,vQ,wV,reg,xZ]
   ·by_cases hak:a<k
    ·refine ⟨a,x,q,⟨6,[a,1,k,vV (decide (a<k))],0⟩,tB,false,?_,?_,?_,h4,h5,.inl ⟨rfl,rfl,.inr (.inr (.inr (.inr (.inr (.inr (.inl ⟨_,rfl,rfl,hak⟩))))))⟩,h7⟩
     all_goals simp [wN,ins,dZ,oD,vQ,reg,hak,vV]
    ·refine ⟨a,x,q,⟨7,[a,1,k,vV (decide (a<k))],0⟩,tB,false,?_,?_,?_,h4,h5,.inl ⟨rfl,rfl,.inr (.inr (.inr (.inr (.inr (.inr (.inr ⟨_,rfl,rfl,by omega⟩))))))⟩,h7⟩
     all_goals simp [wN,ins,dZ,oD,vQ,reg,hak,vV]
   ·refine ⟨a,x,q,⟨2,[a,1,k,z],0⟩,tB,false,?_,rfl,rfl,h4,h5,.inl ⟨rfl,rfl,.inr (.inr (.inl ⟨z,rfl,rfl,b3⟩))⟩,h7⟩
    simp [wN,ins,dZ,oD,vQ]
   ·have hs:vN ⟨n,iW x a,false⟩=(⟨n,iW x a,true⟩,0):=by
     unfold vN
     rw [hco]
     rfl
    refine ⟨a,x,q,⟨8,[a,1,k,z],0⟩,tB,true,?_,?_,?_,h4,h5,.inr ⟨rfl,b3,rfl,rfl,.inl rfl⟩,qTh h7⟩
    ·simp [wN,ins,dZ,oD,vQ,wC,hs]
    ·simp [wN,ins,dZ,oD,vQ,wC,hs]
    ·simp [wN,ins,dZ,oD,vQ,wC,hs]
  ·simp only at e3 e4 e5
   subst e1 e3
   rcases e5 with e5 | e5
   ·subst e5
    refine ⟨a,x,q,⟨8,regs,1⟩,tB,true,?_,?_,?_,h4,h5,.inr ⟨rfl,e2,rfl,e4,.inr rfl⟩,h7⟩
    all_goals simp [wN,ins,dZ,oD]
   ·exfalso
    subst e5
    simp [wU,ins,dZ,oD,qW] at hcode
 ·
  obtain ⟨at_,regs,st⟩:=tB
  obtain ⟨r0,r1,r2,r3,c0,h7⟩:=h7
  simp only at c0 h7
  subst c0
  rcases h7 with ⟨e0,h7⟩ | ⟨e0,h7⟩
  ·subst e0
   rcases h7 with ⟨b1,b2⟩ | ⟨b1,b2⟩ | ⟨b1,b2,b3⟩ | ⟨b1,b2⟩ | ⟨b1,b2,b3,b4⟩
   all_goals subst b1
   ·
    subst b2
    by_cases hemp:x<a
    ·have hs:wP ⟨n,iW x a,cl⟩=((⟨n,iW (x+1) a,cl⟩:jZ),((x:Nat):Int),(0:Int)):=by
      unfold wP
      rw [hco]
      simp only [Bool.not_true,if_false,Bool.false_eq_true]
      rw [if_pos (by rw [qM9]; omega),qSs hemp]
      rfl
     refine ⟨a,x+1,x,tA,⟨1,[x,1,r2,r3],0⟩,cl,?_,?_,?_,by omega,h5,h6,⟨x,1,r2,r3,rfl,.inl ⟨rfl,.inr (.inl ⟨rfl,.inl ⟨rfl,rfl,rfl⟩⟩)⟩⟩⟩
     ·simp [wN,ins,dZ,rP,vQ,wC,wV,hs,vV]
     ·simp [wN,ins,dZ,rP,vQ,wC,wV,hs,vV]
     ·simp [wN,ins,dZ,rP,vQ,wC,wV,hs,vV]
    ·have hxa:x=a:=by omega
     subst hxa
     have hlz:iW x x=[]:=by simp [iW]
     cases cl
     ·exfalso
      simp [wU,ins,dZ,rP,qW,hlz] at hcode
     have hs:wP ⟨n,iW x x,true⟩=(⟨n,iW x x,true⟩,0,3):=by
      unfold wP
      rw [hco,hlz]
      rfl
     refine ⟨x,x,x,tA,⟨1,[0,0,r2,r3],0⟩,true,?_,?_,?_,Nat.le_refl _,h5,h6,⟨0,0,r2,r3,rfl,.inl ⟨rfl,.inr (.inl ⟨rfl,.inr ⟨rfl,rfl,rfl,rfl⟩⟩)⟩⟩⟩
     ·simp [wN,ins,dZ,rP,vQ,wC,wV,hs,vV]
     ·simp [wN,ins,dZ,rP,vQ,wC,wV,hs,vV]
     ·simp [wN,ins,dZ,rP,vQ,wC,wV,hs,vV]
   ·rcases b2 with ⟨d1,d2,d3⟩ | ⟨d1,d2,d3,d4⟩
    ·subst d1 d2 d3
     refine ⟨a,q+1,q,tA,⟨2,[q,1,r2,r3],0⟩,cl,?_,rfl,rfl,h4,h5,h6,⟨q,1,r2,r3,rfl,.inl ⟨rfl,.inr (.inr (.inl ⟨rfl,rfl,rfl⟩))⟩⟩⟩
     simp [wN,ins,dZ,rP,vQ,reg]
    ·subst d1 d2 d3
     refine ⟨a,x,x,tA,⟨4,[r0,0,r2,r3],0⟩,true,?_,rfl,rfl,h4,h5,h6,⟨r0,0,r2,r3,rfl,.inl ⟨rfl,.inr (.inr (.inr (.inr ⟨rfl,rfl,rfl,d4⟩)))⟩⟩⟩
     simp [wN,ins,dZ,rP,vQ,reg]
   ·subst b2 b3
    refine ⟨a,q+1,q+1,tA,⟨3,[q,r1,r2,r3],0⟩,cl,?_,?_,?_,h4,h5,h6,⟨q,r1,r2,r3,rfl,.inl ⟨rfl,.inr (.inr (.inr (.inl ⟨rfl,rfl⟩)))⟩⟩⟩
    ·simp [wN,ins,dZ,rP,vQ,reg]
    ·simp [wN,ins,dZ,rP,vQ,reg]
    ·rw [←qPp]
     simp [wN,ins,dZ,rP,vQ,reg]
   ·subst b2
    refine ⟨a,x,x,tA,⟨0,[r0,r1,r2,r3],0⟩,cl,?_,rfl,rfl,h4,h5,h6,⟨r0,r1,r2,r3,rfl,.inl ⟨rfl,.inl ⟨rfl,rfl⟩⟩⟩⟩
    simp [wN,ins,dZ,rP,vQ]
   ·subst b2 b3
    refine ⟨a,x,x,tA,⟨4,[r0,r1,r2,r3],1⟩,true,?_,rfl,rfl,h4,h5,h6,⟨r0,r1,r2,r3,rfl,.inr ⟨rfl,rfl,rfl,rfl,b4⟩⟩⟩
    simp [wN,ins,dZ,rP]
  ·exfalso
   subst e0
   simp [wU,ins,dZ,rP,qW] at hcode
theorem Ord.new {n k:Nat} (hn:1≤n) (hn4:n≤4) (h:yR (dZ n k)=true):Ord n k (yJ (dZ n k)).1:=by
 unfold yJ
 rw [if_pos h]
 refine ⟨0,0,0,zT,zT,false,rfl,rfl,rfl,Nat.le_refl _,Nat.zero_le _,.inl ⟨rfl,rfl,.inl ⟨rfl,rfl,rfl⟩⟩,⟨0,0,0,0,rfl,.inl ⟨rfl,.inl ⟨rfl,rfl⟩⟩⟩⟩
theorem Ord.run {n k:Nat} (hn:1≤n) (hn4:n≤4) (hk1:1≤k) (hk:k≤7) :∀(l:List Int) {s:wA},Ord n k s→wG (dZ n k) s=true→Ord n k (tW (dZ n k) s l)∧wG (dZ n k) (tW (dZ n k) s l)=true
 | [],s,h,hs=>⟨h,hs⟩
 | x::l,s,h,hs=>Ord.run hn hn4 hk1 hk l (h.step hn hn4 hk1 hk hs x) (dV x hs)
def iA (p:wQ) (Q:wA→Prop) (m:qT):Prop :=∃s,Inv p m s∧Q s
theorem iA.pick {p:wQ} {Q:wA→Prop} (hQ :∀s who,wG p s=true→Q s→Q (qX p s who).1) {m:qT} (h:iA p Q m) (x:qDz):iA p Q (jD m x).1:=by
 obtain ⟨s,h1,h2⟩:=h
 rcases h1.pick x with ⟨_,h3⟩ | ⟨_,_,h3⟩
 ·exact ⟨s,h3,h2⟩
 ·exact ⟨_,h3,hQ s x.who h1.src h2⟩
theorem iA.rst {p:wQ} {Q:wA→Prop} (hQ :∀s who,wG p s=true→Q s→Q (qX p s who).1) (i:Nat) :∀(n:Nat) {m:qT},iA p Q m→iA p Q (rst p i n m)
 | 0,_,h=>h
 | n+1,m,h=>by
  unfold Go.Sep.rst
  split
  ·exact iA.rst hQ i n (h.pick hQ ⟨i,0⟩)
  ·exact h
theorem iA.row {p:wQ} {Q:wA→Prop} (hQ :∀s who,wG p s=true→Q s→Q (qX p s who).1) :∀(l:List Nat) {m:qT},iA p Q m→iA p Q (wB3 p l m)
 | [],_,h=>h
 | i::l,m,h=>iA.row hQ l (m:=Go.Sep.rst p i 40 m) (h.rst hQ i 40)
theorem Inv.over {p:wQ} {m:qT} {s:wA} (h:Inv p m s) {i:Nat} (hi:i<m.cores.length) (hst:(qJ m i).st≠0):(thd s i).st≠0:=by
 obtain ⟨own,hC,_⟩:=h.own
 cases hC i hi with
 | over h1 hs ho=>rw [hs]; exact h1
 | out k h1 _ _ _ _ _=>exact absurd h1 hst
 | inner j n N a e fl hj hx hn hc _ _ _ _ _ _ _ _ _=>exact absurd hc.st hst
end Go.Sep
