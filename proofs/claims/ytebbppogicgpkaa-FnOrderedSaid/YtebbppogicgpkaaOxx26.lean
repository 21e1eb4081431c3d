/- Contracts of functions. -/
import Derived.Test.YtebbppogicgpkaaOxx25
namespace Go.Sep
set_option maxHeartbeats 16000000
open Go.Proofs
set_option linter.unusedSimpArgs false
set_option linter.unusedVariables false
set_option maxRecDepth 100000
def qFs (m:qK) (n:Nat):Prop :=∀c,c<24→(m.mem.cells.getD c []).length+n≤4000
theorem qFs.le {m:qK} {n k:Nat} (h:qFs m n) (hk:k≤n):qFs m k:=fun c hc=>by have:=h c hc; omega
theorem qLz (cs:List (List wO)) (K:vK) (t:wX) (c:Nat) (late:Int) (d:Nat) (hc:c<cs.length):((vA cs K t c late).1.getD d []).length≤(cs.getD d []).length+1:=by
 have hst :∀v vw go,((store cs vw c v go).1.getD d []).length≤(cs.getD d []).length+1:=by
  intro v vw go
  rw [sQ]
  simp only
  rw [aI _ hc]
  split
  ·rename_i e
   rw [e]
   simp
  ·omega
 unfold vA
 split
 ·simp only
  omega
 split
 ·exact hst _ _ _
 ·exact hst _ _ _
theorem qS4 {m:qK} (hM:MOk m) (i:Nat) (late:Int) (d:Nat):((mdo m i late).mem.cells.getD d []).length≤(m.mem.cells.getD d []).length+1:=by
 have hg :∀(M:qK) (K:vK) (n:Int),(fW M i K n).mem=M.mem:=fun M K n=>by unfold fW jG; split<;>rfl
 unfold mdo
 simp only
 split
 ·exact Nat.le_succ _
 split
 ·exact Nat.le_succ _
 split
 ·split
  ·rename_i hw
   rw [hg]
   rw [qM] at hw
   exact qLz _ _ _ _ _ _ (by rw [hM.mem.len]; omega)
  ·exact Nat.le_succ _
 split
 ·rw [hg]
  exact Nat.le_succ _
 ·rw [hg]
  exact Nat.le_succ _
theorem qFs.step {m:qK} {n:Nat} (h:qFs m (n+1)) (hM:MOk m) (x:gI):qFs (wS m x).1 n:=by
 intro c hc
 have h1:=h c hc
 unfold wS
 split
 ·have:=qS4 hM x.who.toNat x.late c
  simp only
  omega
 ·simp only
  omega
theorem qFs.rst {p:wN} {i:Nat} :∀(n k:Nat) {m:qK},wJ m=true→qFs m (n+k)→qFs (rst p i n m) k
 | 0,k,m,hM,h=>by rw [Nat.zero_add] at h; exact h
 | n+1,k,m,hM,h=>by
  unfold Go.Sep.rst
  split
  ·exact qFs.rst n k (zR _ hM) (qFs.step (n:=n+k) (by rw [show n+k+1=n+1+k by omega]; exact h) ((yH m).1 hM) _)
  ·exact h.le (by omega)
def nI (k:Int):List Ins:=[⟨1,1,0,0,1⟩,⟨1,2,0,0,k⟩,⟨5,0,0,0,0⟩,⟨2,0,0,1,0⟩,⟨4,3,0,2,0⟩,⟨12,0,3,0,7⟩,⟨11,0,0,0,2⟩,⟨9,0,0,0,0⟩,⟨13,0,0,0,0⟩]
def pY:List Ins:=[⟨6,0,0,1,0⟩,⟨12,0,1,0,4⟩,⟨10,0,0,0,0⟩,⟨11,0,0,0,0⟩,⟨13,0,0,0,0⟩]
def vF (n k:Int):wN:=⟨[n],[nI k,pY]⟩
def kO (a b:Nat):List Int:=(List.range (b-a)).map fun i=>((a+i:Nat):Int)
theorem qK0 (a b:Nat):(kO a b).length=b-a:=by simp [kO]
theorem qP4 {a b:Nat} (h:a≤b):kO a b++[(b:Int)]=kO a (b+1):=by
 unfold kO
 rw [show b+1-a=(b-a)+1 by omega,List.range_succ,List.map_append]
 simp
 omega
theorem qP5 {a b:Nat} (h:a<b):kO a b=(a:Int)::kO (a+1) b:=by
 unfold kO
 obtain ⟨d,hd⟩ :∃d,b-a=d+1:=⟨b-a-1,by omega⟩
 rw [hd,show b-(a+1)=d by omega,List.range_succ_eq_map]
 simp
 intro i _
 omega
def nY (q:Nat):List dW:=(List.range q).map fun (i:Nat)=>⟨1,(i:Int)⟩
theorem qMk (q:Nat):nY q++[⟨1,(q:Int)⟩]=nY (q+1):=by
 unfold nY
 rw [List.range_succ,List.map_append]
 rfl
def qVe (k a:Nat) (t:yZ) (cl:Bool):Prop :=
 (t.st=0∧cl=false∧(
  (t.at_=0∧t.regs=[0,0,0,0]∧a=0)∨(t.at_=1∧t.regs=[0,1,0,0]∧a=0)∨
  (∃z:Int,t.at_=2∧t.regs=[(a:Int),1,(k:Int),z]∧a<k)∨(∃z:Int,t.at_=3∧t.regs=[(a:Int)-1,1,(k:Int),z]∧1≤a∧a≤k)∨
  (∃z:Int,t.at_=4∧t.regs=[(a:Int),1,(k:Int),z]∧1≤a∧a≤k)∨(t.at_=5∧t.regs=[(a:Int),1,(k:Int),vQ (decide (a<k))]∧1≤a∧a≤k)∨
  (∃z:Int,t.at_=6∧t.regs=[(a:Int),1,(k:Int),z]∧a<k)∨(∃z:Int,t.at_=7∧t.regs=[(a:Int),1,(k:Int),z]∧a=k)))∨
 (cl=true∧a=k∧t.at_=8∧t.regs.length=4∧(t.st=0∨t.st=1))
def qRp (k a x q:Nat) (t:yZ) (cl:Bool):Prop :=
 ∃r0 r1 r2 r3:Int,t.regs=[r0,r1,r2,r3]∧
  ((t.st=0∧((t.at_=0∧x=q)∨(t.at_=1∧((r1=1∧r0=q∧x=q+1)∨(r1=0∧x=q∧cl=true∧x=a)))∨(t.at_=2∧r0=q∧x=q+1)∨(t.at_=3∧x=q)∨(t.at_=4∧x=q∧cl=true∧x=a)))∨
   (t.st=1∧t.at_=4∧x=q∧cl=true∧x=a))
structure Ord (n k:Nat) (s:qV):Prop where
 has :∃a x q:Nat,∃tA tB:yZ,∃cl:Bool,s.ths=[tA,tB]∧s.chs=[⟨n,kO x a,cl⟩]∧s.tr=nY q∧x≤a∧a≤k∧qVe k a tA cl∧qRp k a x q tB cl
theorem qPu {k a x q:Nat} {t:yZ} (h:qRp k a x q t false) (a':Nat):qRp k a' x q t false:=by
 obtain ⟨r0,r1,r2,r3,e,h⟩:=h
 refine ⟨r0,r1,r2,r3,e,?_⟩
 rcases h with ⟨h0,h⟩ | ⟨h0,h1,h2,h3,h4⟩
 ·left
  refine ⟨h0,?_⟩
  rcases h with h | ⟨h1,h⟩ | h | h | ⟨h1,h2,h3,h4⟩
  ·exact .inl h
  ·rcases h with h | ⟨_,_,h,_⟩
   ·exact .inr (.inl ⟨h1,.inl h⟩)
   ·exact absurd h (by decide)
  ·exact .inr (.inr (.inl h))
  ·exact .inr (.inr (.inr (.inl h)))
  ·exact absurd h3 (by decide)
 ·exact absurd h3 (by decide)
theorem qPt {k a x q:Nat} {t:yZ} (h:qRp k a x q t false):qRp k a x q t true:=by
 obtain ⟨r0,r1,r2,r3,e,h⟩:=h
 refine ⟨r0,r1,r2,r3,e,?_⟩
 rcases h with ⟨h0,h⟩ | ⟨h0,h1,h2,h3,h4⟩
 ·left
  refine ⟨h0,?_⟩
  rcases h with h | ⟨h1,h⟩ | h | h | ⟨h1,h2,h3,h4⟩
  ·exact .inl h
  ·rcases h with h | ⟨_,_,h,_⟩
   ·exact .inr (.inl ⟨h1,.inl h⟩)
   ·exact absurd h (by decide)
  ·exact .inr (.inr (.inl h))
  ·exact .inr (.inr (.inr (.inl h)))
  ·exact absurd h3 (by decide)
 ·exact absurd h3 (by decide)
theorem Ord.step {n k:Nat} {s:qV} (hn:1≤n) (hn4:n≤4) (hk1:1≤k) (hk:k≤7) (h:Ord n k s) (hsrc:wF (vF n k) s=true) (who:Int):Ord n k (qY (vF n k) s who).1:=by
 obtain ⟨a,x,q,tA,tB,cl,h1,h2,h3,h4,h5,h6,h7⟩:=h.has
 obtain ⟨ths,chs,tr⟩:=s
 simp only at h1 h2 h3
 subst h1 h2 h3
 have hco:jZ ⟨n,kO x a,cl⟩=true:=(((vU _ _).1 hsrc).2.2.2.2.2 0 (by simp)).1
 clear hsrc
 unfold qY
 split
 case isFalse=>exact h
 rename_i hcode
 obtain ⟨w0,w1⟩:=qJi hcode
 obtain ⟨i,rfl⟩:=Int.eq_ofNat_of_zero_le w0
 simp only [Int.toNat_natCast,List.length_cons,List.length_nil] at w1⊢
 clear w0
 have hi:i=0∨i=1:=by omega
 rcases hi with rfl | rfl
 ·
  obtain ⟨at_,regs,st⟩:=tA
  rcases h6 with ⟨e1,e2,h6⟩ | ⟨e1,e2,e3,e4,e5⟩
  ·simp only at e1 h6
   subst e1 e2
   rcases h6 with ⟨b1,b2,b3⟩ | ⟨b1,b2,b3⟩ | ⟨z,b1,b2,b3⟩ | ⟨z,b1,b2,b3,b4⟩ | ⟨z,b1,b2,b3,b4⟩ | ⟨b1,b2,b3,b4⟩ | ⟨z,b1,b2,b3⟩ | ⟨z,b1,b2,b3⟩
   all_goals subst b1 b2
   ·subst b3
    refine ⟨0,x,q,⟨1,[0,1,0,0],0⟩,tB,false,?_,rfl,rfl,h4,h5,.inl ⟨rfl,rfl,.inr (.inl ⟨rfl,rfl,rfl⟩)⟩,h7⟩
    simp [wV,ins,vF,nI,uO,yA]
   ·subst b3
    refine ⟨0,x,q,⟨2,[0,1,k,0],0⟩,tB,false,?_,rfl,rfl,h4,h5,.inl ⟨rfl,rfl,.inr (.inr (.inl ⟨0,rfl,rfl,by omega⟩))⟩,h7⟩
    simp [wV,ins,vF,nI,uO,yA]
   ·
    have hfull :¬((kO x a).length:Int)=n:=by
     intro e
     simp [yJ,ins,vF,nI,qL,e] at hcode
    have hs:yF ⟨n,kO x a,false⟩ a=(⟨n,kO x (a+1),false⟩,0):=by
     unfold yF
     rw [hco]
     simp only [Bool.not_true,Bool.or_false,if_false,Bool.false_eq_true]
     rw [if_neg hfull,qP4 h4]
    refine ⟨a+1,x,q,⟨3,[a,1,k,z],0⟩,tB,false,?_,?_,?_,by omega,by omega,.inl ⟨rfl,rfl,.inr (.inr (.inr (.inl ⟨z,rfl,by simp,by omega,by omega⟩)))⟩,qPu h7 _⟩
    ·simp [wV,ins,vF,nI,uO,wM,reg,hs]
    ·simp [wV,ins,vF,nI,uO,wM,reg,hs]
    ·simp [wV,ins,vF,nI,uO,wM,reg,hs]
   ·refine ⟨a,x,q,⟨4,[a,1,k,z],0⟩,tB,false,?_,rfl,rfl,h4,h5,.inl ⟨rfl,rfl,.inr (.inr (.inr (.inr (.inl ⟨z,rfl,rfl,b3,b4⟩))))⟩,h7⟩
    have hw:IntKind.i64.wrap (a:Int)=a:=yP (by omega) (by omega)
    simp [wV,ins,vF,nI,uO,yA,reg,cV,hw]
   ·refine ⟨a,x,q,⟨5,[a,1,k,vQ (decide (a<k))],0⟩,tB,false,?_,rfl,rfl,h4,h5,.inl ⟨rfl,rfl,.inr (.inr (.inr (.inr (.inr (.inl ⟨rfl,rfl,b3,b4⟩)))))⟩,h7⟩
    simp [wV,ins,vF,nI,uO,yA,reg,cV]
   ·by_cases hak:a<k
    ·refine ⟨a,x,q,⟨6,[a,1,k,vQ (decide (a<k))],0⟩,tB,false,?_,?_,?_,h4,h5,.inl ⟨rfl,rfl,.inr (.inr (.inr (.inr (.inr (.inr (.inl ⟨_,rfl,rfl,hak⟩))))))⟩,h7⟩
     all_goals simp [wV,ins,vF,nI,uO,reg,hak,vQ]
    ·refine ⟨a,x,q,⟨7,[a,1,k,vQ (decide (a<k))],0⟩,tB,false,?_,?_,?_,h4,h5,.inl ⟨rfl,rfl,.inr (.inr (.inr (.inr (.inr (.inr (.inr ⟨_,rfl,rfl,by omega⟩))))))⟩,h7⟩
     all_goals simp [wV,ins,vF,nI,uO,reg,hak,vQ]
   ·refine ⟨a,x,q,⟨2,[a,1,k,z],0⟩,tB,false,?_,rfl,rfl,h4,h5,.inl ⟨rfl,rfl,.inr (.inr (.inl ⟨z,rfl,rfl,b3⟩))⟩,h7⟩
    simp [wV,ins,vF,nI,uO]
   ·have hs:vO ⟨n,kO x a,false⟩=(⟨n,kO x a,true⟩,0):=by
     unfold vO
     rw [hco]
     rfl
    refine ⟨a,x,q,⟨8,[a,1,k,z],0⟩,tB,true,?_,?_,?_,h4,h5,.inr ⟨rfl,b3,rfl,rfl,.inl rfl⟩,qPt h7⟩
    ·simp [wV,ins,vF,nI,uO,wM,hs]
    ·simp [wV,ins,vF,nI,uO,wM,hs]
    ·simp [wV,ins,vF,nI,uO,wM,hs]
  ·simp only at e3 e4 e5
   subst e1 e3
   rcases e5 with e5 | e5
   ·subst e5
    refine ⟨a,x,q,⟨8,regs,1⟩,tB,true,?_,?_,?_,h4,h5,.inr ⟨rfl,e2,rfl,e4,.inr rfl⟩,h7⟩
    all_goals simp [wV,ins,vF,nI]
   ·exfalso
    subst e5
    simp [yJ,ins,vF,nI,qL] at hcode
 ·
  obtain ⟨at_,regs,st⟩:=tB
  obtain ⟨r0,r1,r2,r3,c0,h7⟩:=h7
  simp only at c0 h7
  subst c0
  rcases h7 with ⟨e0,h7⟩ | ⟨e0,h7⟩
  ·subst e0
   rcases h7 with ⟨b1,b2⟩ | ⟨b1,b2⟩ | ⟨b1,b2,b3⟩ | ⟨b1,b2⟩ | ⟨b1,b2,b3,b4⟩
   all_goals subst b1
   ·
    subst b2
    by_cases hemp:x<a
    ·have hs:wR ⟨n,kO x a,cl⟩=((⟨n,kO (x+1) a,cl⟩:uE),((x:Nat):Int),(0:Int)):=by
      unfold wR
      rw [hco]
      simp only [Bool.not_true,if_false,Bool.false_eq_true]
      rw [if_pos (by rw [qK0]; omega),qP5 hemp]
      rfl
     refine ⟨a,x+1,x,tA,⟨1,[x,1,r2,r3],0⟩,cl,?_,?_,?_,by omega,h5,h6,⟨x,1,r2,r3,rfl,.inl ⟨rfl,.inr (.inl ⟨rfl,.inl ⟨rfl,rfl,rfl⟩⟩)⟩⟩⟩
     ·simp [wV,ins,vF,pY,uO,wM,yA,hs,vQ]
     ·simp [wV,ins,vF,pY,uO,wM,yA,hs,vQ]
     ·simp [wV,ins,vF,pY,uO,wM,yA,hs,vQ]
    ·have hxa:x=a:=by omega
     subst hxa
     have hlz:kO x x=[]:=by simp [kO]
     cases cl
     ·exfalso
      simp [yJ,ins,vF,pY,qL,hlz] at hcode
     have hs:wR ⟨n,kO x x,true⟩=(⟨n,kO x x,true⟩,0,3):=by
      unfold wR
      rw [hco,hlz]
      rfl
     refine ⟨x,x,x,tA,⟨1,[0,0,r2,r3],0⟩,true,?_,?_,?_,Nat.le_refl _,h5,h6,⟨0,0,r2,r3,rfl,.inl ⟨rfl,.inr (.inl ⟨rfl,.inr ⟨rfl,rfl,rfl,rfl⟩⟩)⟩⟩⟩
     ·simp [wV,ins,vF,pY,uO,wM,yA,hs,vQ]
     ·simp [wV,ins,vF,pY,uO,wM,yA,hs,vQ]
     ·simp [wV,ins,vF,pY,uO,wM,yA,hs,vQ]
   ·rcases b2 with ⟨d1,d2,d3⟩ | ⟨d1,d2,d3,d4⟩
    ·subst d1 d2 d3
     refine ⟨a,q+1,q,tA,⟨2,[q,1,r2,r3],0⟩,cl,?_,rfl,rfl,h4,h5,h6,⟨q,1,r2,r3,rfl,.inl ⟨rfl,.inr (.inr (.inl ⟨rfl,rfl,rfl⟩))⟩⟩⟩
     simp [wV,ins,vF,pY,uO,reg]
    ·subst d1 d2 d3
     refine ⟨a,x,x,tA,⟨4,[r0,0,r2,r3],0⟩,true,?_,rfl,rfl,h4,h5,h6,⟨r0,0,r2,r3,rfl,.inl ⟨rfl,.inr (.inr (.inr (.inr ⟨rfl,rfl,rfl,d4⟩)))⟩⟩⟩
     simp [wV,ins,vF,pY,uO,reg]
   ·subst b2 b3
    refine ⟨a,q+1,q+1,tA,⟨3,[q,r1,r2,r3],0⟩,cl,?_,?_,?_,h4,h5,h6,⟨q,r1,r2,r3,rfl,.inl ⟨rfl,.inr (.inr (.inr (.inl ⟨rfl,rfl⟩)))⟩⟩⟩
    ·simp [wV,ins,vF,pY,uO,reg]
    ·simp [wV,ins,vF,pY,uO,reg]
    ·rw [←qMk]
     simp [wV,ins,vF,pY,uO,reg]
   ·subst b2
    refine ⟨a,x,x,tA,⟨0,[r0,r1,r2,r3],0⟩,cl,?_,rfl,rfl,h4,h5,h6,⟨r0,r1,r2,r3,rfl,.inl ⟨rfl,.inl ⟨rfl,rfl⟩⟩⟩⟩
    simp [wV,ins,vF,pY,uO]
   ·subst b2 b3
    refine ⟨a,x,x,tA,⟨4,[r0,r1,r2,r3],1⟩,true,?_,rfl,rfl,h4,h5,h6,⟨r0,r1,r2,r3,rfl,.inr ⟨rfl,rfl,rfl,rfl,b4⟩⟩⟩
    simp [wV,ins,vF,pY]
  ·exfalso
   subst e0
   simp [yJ,ins,vF,pY,qL] at hcode
theorem Ord.new {n k:Nat} (hn:1≤n) (hn4:n≤4) (h:vD (vF n k)=true):Ord n k (jP (vF n k)).1:=by
 unfold jP
 rw [if_pos h]
 refine ⟨0,0,0,eB,eB,false,rfl,rfl,rfl,Nat.le_refl _,Nat.zero_le _,.inl ⟨rfl,rfl,.inl ⟨rfl,rfl,rfl⟩⟩,⟨0,0,0,0,rfl,.inl ⟨rfl,.inl ⟨rfl,rfl⟩⟩⟩⟩
theorem Ord.run {n k:Nat} (hn:1≤n) (hn4:n≤4) (hk1:1≤k) (hk:k≤7) :∀(l:List Int) {s:qV},Ord n k s→wF (vF n k) s=true→Ord n k (qIl (vF n k) s l)∧wF (vF n k) (qIl (vF n k) s l)=true
 | [],s,h,hs=>⟨h,hs⟩
 | x::l,s,h,hs=>Ord.run hn hn4 hk1 hk l (h.step hn hn4 hk1 hk hs x) (cD x hs)
theorem Ord.trace {n k:Nat} {s:qV} (h:Ord n k s) :∃q,q≤k∧s.tr=nY q∧((thd s 0).st≠0→(thd s 1).st≠0→q=k):=by
 obtain ⟨a,x,q,tA,tB,cl,h1,h2,h3,h4,h5,h6,h7⟩:=h.has
 obtain ⟨r0,r1,r2,r3,c0,h7⟩:=h7
 refine ⟨q,?_,h3,?_⟩
 ·rcases h7 with ⟨_,h7⟩ | ⟨_,_,h7,_⟩
  ·rcases h7 with ⟨_,h7⟩ | ⟨_,h7⟩ | ⟨_,_,h7⟩ | ⟨_,h7⟩ | ⟨_,h7,_⟩
   ·omega
   ·rcases h7 with ⟨_,_,h7⟩ | ⟨_,h7,_⟩<;>omega
   ·omega
   ·omega
   ·omega
  ·omega
 ·intro e0 e1
  have t0:thd s 0=tA:=by unfold thd; rw [h1]; rfl
  have t1:thd s 1=tB:=by unfold thd; rw [h1]; rfl
  rw [t0] at e0
  rw [t1] at e1
  rcases h6 with ⟨h6,_⟩ | ⟨_,h6,_⟩
  ·exact absurd h6 e0
  ·rcases h7 with ⟨h7,_⟩ | ⟨_,_,h7,_,h8⟩
   ·exact absurd h7 e1
   ·omega
def vT (p:wN) (Q:qV→Prop) (m:qK):Prop :=∃s,Inv p m s∧Q s
theorem vT.pick {p:wN} {Q:qV→Prop} (hQ :∀s who,wF p s=true→Q s→Q (qY p s who).1) {m:qK} (h:vT p Q m) (x:gI):vT p Q (wS m x).1:=by
 obtain ⟨s,h1,h2⟩:=h
 rcases h1.pick x with ⟨_,h3⟩ | ⟨_,_,h3⟩
 ·exact ⟨s,h3,h2⟩
 ·exact ⟨_,h3,hQ s x.who h1.src h2⟩
theorem vT.rst {p:wN} {Q:qV→Prop} (hQ :∀s who,wF p s=true→Q s→Q (qY p s who).1) (i:Nat) :∀(n:Nat) {m:qK},vT p Q m→vT p Q (rst p i n m)
 | 0,_,h=>h
 | n+1,m,h=>by
  unfold Go.Sep.rst
  split
  ·exact vT.rst hQ i n (h.pick hQ ⟨i,0⟩)
  ·exact h
theorem vT.row {p:wN} {Q:qV→Prop} (hQ :∀s who,wF p s=true→Q s→Q (qY p s who).1) :∀(l:List Nat) {m:qK},vT p Q m→vT p Q (qIt p l m)
 | [],_,h=>h
 | i::l,m,h=>vT.row hQ l (m:=Go.Sep.rst p i 40 m) (h.rst hQ i 40)
theorem vT.rest {p:wN} {Q:qV→Prop} (hQ :∀s who,wF p s=true→Q s→Q (qY p s who).1) (n:Nat) :∀(k:Nat) {m:qK},vT p Q m→vT p Q (sY p n k m)
 | 0,_,h=>h
 | k+1,m,h=>vT.rest hQ n k (h.row hQ _)
theorem vT.alone {p:wN} {Q:qV→Prop} (hQ :∀s who,wF p s=true→Q s→Q (qY p s who).1) :∀(n:Nat) {m:qK} (who:Int),vT p Q m→vT p Q (uV n m who)
 | 0,_,_,h=>h
 | n+1,m,who,h=>by
  unfold uV
  split
  ·exact vT.alone hQ n who (h.pick hQ ⟨who,0⟩)
  ·exact h.pick hQ ⟨who,0⟩
theorem vT.finWho {p:wN} {Q:qV→Prop} (hQ :∀s who,wF p s=true→Q s→Q (qY p s who).1) :∀(l:List Nat) {m:qK},vT p Q m→vT p Q (finWho p l m)
 | [],_,h=>h
 | i::l,m,h=>vT.finWho hQ l (m:=kC p m i) (vT.rest hQ _ 4 (h.alone hQ (dS 40) i))
theorem vT.finN {p:wN} {Q:qV→Prop} (hQ :∀s who,wF p s=true→Q s→Q (qY p s who).1) (n:Nat) :∀(k:Nat) {m:qK},vT p Q m→vT p Q (finN p n k m)
 | 0,_,h=>h
 | k+1,m,h=>vT.finN hQ n k (m:=Go.Sep.finWho p (List.range n) (qC9 p m)) (vT.finWho hQ _ (vT.rest hQ _ 4 h))
theorem Inv.over {p:wN} {m:qK} {s:qV} (h:Inv p m s) {i:Nat} (hi:i<m.cores.length) (hst:(qJ m i).st≠0):(thd s i).st≠0:=by
 obtain ⟨own,hC,_⟩:=h.own
 cases hC i hi with
 | over h1 hs ho=>rw [hs]; exact h1
 | out k h1 _ _ _ _ _=>exact absurd h1 hst
 | inner j n N a e fl hj hx hn hc _ _ _ _ _ _ _ _ _=>exact absurd hc.st hst
end Go.Sep
