/- Contracts of functions. -/
import Derived.Test.YtebbppogicgpkaaGreatQxx35
namespace Go.Sep
set_option maxHeartbeats 16000000
open Go.Proofs
set_option linter.unusedSimpArgs false
set_option linter.unusedVariables false
set_option maxRecDepth 100000
def Room (m:Machine) (n:Nat):Prop :=∀c,c<24→(m.mem.cells.getD c []).length+n≤4000
theorem Room.le {m:Machine} {n k:Nat} (h:Room m n) (hk:k≤n):Room m k:=fun c hc=>by have:=h c hc; omega
theorem access_grow (cs:List (List Write)) (K:Core) (t:Step) (c:Nat) (late:Int) (d:Nat) (hc:c<cs.length):((access cs K t c late).1.getD d []).length≤(cs.getD d []).length+1:=by
 have hst :∀v vw go,((store cs vw c v go).1.getD d []).length≤(cs.getD d []).length+1:=by
  intro v vw go
  rw [store_eq]
  simp only
  rw [getD_setC _ hc]
  split
  ·rename_i e
   rw [e]
   simp
  ·omega
 unfold access
 split
 ·simp only
  omega
 split
 ·exact hst _ _ _
 ·exact hst _ _ _
theorem mdo_grow {m:Machine} (hM:MOk m) (i:Nat) (late:Int) (d:Nat):((mdo m i late).mem.cells.getD d []).length≤(m.mem.cells.getD d []).length+1:=by
 have hg :∀(M:Machine) (K:Core) (n:Int),(goOn M i K n).mem=M.mem:=fun M K n=>by unfold goOn setK; split<;>rfl
 unfold mdo
 simp only
 split
 ·exact Nat.le_succ _
 split
 ·exact Nat.le_succ _
 split
 ·split
  ·rename_i hw
   rw [hg]
   rw [within_iff] at hw
   exact access_grow _ _ _ _ _ _ (by rw [hM.mem.len]; omega)
  ·exact Nat.le_succ _
 split
 ·rw [hg]
  exact Nat.le_succ _
 ·rw [hg]
  exact Nat.le_succ _
theorem Room.step {m:Machine} {n:Nat} (h:Room m (n+1)) (hM:MOk m) (x:Pick):Room (mstep m x).1 n:=by
 intro c hc
 have h1:=h c hc
 unfold mstep
 split
 ·have:=mdo_grow hM x.who.toNat x.late c
  simp only
  omega
 ·simp only
  omega
theorem Room.rst {p:Prog} {i:Nat} :∀(n k:Nat) {m:Machine},machineOk m=true→Room m (n+k)→Room (rst p i n m) k
 | 0,k,m,hM,h=>by rw [Nat.zero_add] at h; exact h
 | n+1,k,m,hM,h=>by
  unfold Go.Sep.rst
  split
  ·exact Room.rst n k (mstep_ok _ hM) (Room.step (n:=n+k) (by rw [show n+k+1=n+1+k by omega]; exact h) ((qA8 m).1 hM) _)
  ·exact h.le (by omega)
theorem mrun_room :∀(l:List Pick) {m:Machine} (k:Nat),machineOk m=true→Room m (l.length+k)→Room (mrun m l) k
 | [],m,k,_,h=>by rw [List.length_nil,Nat.zero_add] at h; exact h
 | x::l,m,k,hM,h=>by
  unfold mrun
  exact mrun_room l k (mstep_ok x hM) (Room.step (n:=l.length+k) (by rw [show l.length+k+1=(x::l).length+k by simp; omega]; exact h) ((qA8 m).1 hM) x)
theorem launch_room {p:Prog} (h:(launch p).2=true):Room (launch p).1 3999:=by
 intro c hc
 have hcs:(launch p).1.mem.cells=mem0:=by
  unfold launch at h⊢
  split
  ·rename_i h2
   rw [if_pos h2] at h
   unfold machNewR at h⊢
   split
   ·rfl
   ·rename_i h3
    rw [if_neg h3] at h
    exact absurd h (by simp)
  ·rename_i h2
   rw [if_neg h2] at h
   exact absurd h (by simp)
 rw [hcs,mem0_get hc]
 exact Nat.le_refl _
theorem wit_room {p:Prog} {l:List Pick} (h:(witness p l).2.2=true) (hl:l.length≤3800):Room (witness p l).2.1 160:=by
 obtain ⟨h1,h2,h3,h4,h5,h6⟩:=witness_right h
 have hr:=mrun_room l 160 (launch_codes h4).2.2.2 ((launch_room h4).le (by omega))
 rw [h5]
 exact hr
def ordA (k:Int):List Ins:=[⟨1,1,0,0,1⟩,⟨1,2,0,0,k⟩,⟨5,0,0,0,0⟩,⟨2,0,0,1,0⟩,⟨4,3,0,2,0⟩,⟨12,0,3,0,7⟩,⟨11,0,0,0,2⟩,⟨9,0,0,0,0⟩,⟨13,0,0,0,0⟩]
def ordB:List Ins:=[⟨6,0,0,1,0⟩,⟨12,0,1,0,4⟩,⟨10,0,0,0,0⟩,⟨11,0,0,0,0⟩,⟨13,0,0,0,0⟩]
def ordP (n k:Int):Prog:=⟨[n],[ordA k,ordB]⟩
def upto (a b:Nat):List Int:=(List.range (b-a)).map fun i=>((a+i:Nat):Int)
theorem upto_length (a b:Nat):(upto a b).length=b-a:=by simp [upto]
theorem upto_snoc {a b:Nat} (h:a≤b):upto a b++[(b:Int)]=upto a (b+1):=by
 unfold upto
 rw [show b+1-a=(b-a)+1 by omega,List.range_succ,List.map_append]
 simp
 omega
theorem upto_head {a b:Nat} (h:a<b):upto a b=(a:Int)::upto (a+1) b:=by
 unfold upto
 obtain ⟨d,hd⟩ :∃d,b-a=d+1:=⟨b-a-1,by omega⟩
 rw [hd,show b-(a+1)=d by omega,List.range_succ_eq_map]
 simp
 intro i _
 omega
def ordTr (q:Nat):List Note:=(List.range q).map fun (i:Nat)=>⟨1,(i:Int)⟩
theorem ordTr_snoc (q:Nat):ordTr q++[⟨1,(q:Int)⟩]=ordTr (q+1):=by
 unfold ordTr
 rw [List.range_succ,List.map_append]
 rfl
def ordS (k a:Nat) (t:Thread) (cl:Bool):Prop :=
 (t.st=0∧cl=false∧(
  (t.at_=0∧t.regs=[0,0,0,0]∧a=0)∨(t.at_=1∧t.regs=[0,1,0,0]∧a=0)∨
  (∃z:Int,t.at_=2∧t.regs=[(a:Int),1,(k:Int),z]∧a<k)∨(∃z:Int,t.at_=3∧t.regs=[(a:Int)-1,1,(k:Int),z]∧1≤a∧a≤k)∨
  (∃z:Int,t.at_=4∧t.regs=[(a:Int),1,(k:Int),z]∧1≤a∧a≤k)∨(t.at_=5∧t.regs=[(a:Int),1,(k:Int),numb (decide (a<k))]∧1≤a∧a≤k)∨
  (∃z:Int,t.at_=6∧t.regs=[(a:Int),1,(k:Int),z]∧a<k)∨(∃z:Int,t.at_=7∧t.regs=[(a:Int),1,(k:Int),z]∧a=k)))∨
 (cl=true∧a=k∧t.at_=8∧t.regs.length=4∧(t.st=0∨t.st=1))
def ordR (k a x q:Nat) (t:Thread) (cl:Bool):Prop :=
 ∃r0 r1 r2 r3:Int,t.regs=[r0,r1,r2,r3]∧
  ((t.st=0∧((t.at_=0∧x=q)∨(t.at_=1∧((r1=1∧r0=q∧x=q+1)∨(r1=0∧x=q∧cl=true∧x=a)))∨(t.at_=2∧r0=q∧x=q+1)∨(t.at_=3∧x=q)∨(t.at_=4∧x=q∧cl=true∧x=a)))∨
   (t.st=1∧t.at_=4∧x=q∧cl=true∧x=a))
structure Ord (n k:Nat) (s:Source):Prop where
 has :∃a x q:Nat,∃tA tB:Thread,∃cl:Bool,s.ths=[tA,tB]∧s.chs=[⟨n,upto x a,cl⟩]∧s.tr=ordTr q∧x≤a∧a≤k∧ordS k a tA cl∧ordR k a x q tB cl
theorem ordR_more {k a x q:Nat} {t:Thread} (h:ordR k a x q t false) (a':Nat):ordR k a' x q t false:=by
 obtain ⟨r0,r1,r2,r3,e,h⟩:=h
 refine ⟨r0,r1,r2,r3,e,?_⟩
 rcases h with ⟨h0,h⟩ | ⟨h0,h1,h2,h3,h4⟩
 ·left
  refine ⟨h0,?_⟩
  rcases h with h | ⟨h1,h⟩ | h | h | ⟨h1,h2,h3,h4⟩
  ·exact .inl h
  ·rcases h with h | ⟨_,_,h,_⟩
   ·exact .inr (.inl ⟨h1,.inl h⟩)
   ·exact absurd h (by decide)
  ·exact .inr (.inr (.inl h))
  ·exact .inr (.inr (.inr (.inl h)))
  ·exact absurd h3 (by decide)
 ·exact absurd h3 (by decide)
theorem ordR_shut {k a x q:Nat} {t:Thread} (h:ordR k a x q t false):ordR k a x q t true:=by
 obtain ⟨r0,r1,r2,r3,e,h⟩:=h
 refine ⟨r0,r1,r2,r3,e,?_⟩
 rcases h with ⟨h0,h⟩ | ⟨h0,h1,h2,h3,h4⟩
 ·left
  refine ⟨h0,?_⟩
  rcases h with h | ⟨h1,h⟩ | h | h | ⟨h1,h2,h3,h4⟩
  ·exact .inl h
  ·rcases h with h | ⟨_,_,h,_⟩
   ·exact .inr (.inl ⟨h1,.inl h⟩)
   ·exact absurd h (by decide)
  ·exact .inr (.inr (.inl h))
  ·exact .inr (.inr (.inr (.inl h)))
  ·exact absurd h3 (by decide)
 ·exact absurd h3 (by decide)
theorem Ord.step {n k:Nat} {s:Source} (hn:1≤n) (hn4:n≤4) (hk1:1≤k) (hk:k≤7) (h:Ord n k s) (hsrc:sourceOk (ordP n k) s=true) (who:Int):Ord n k (sourceStep (ordP n k) s who).1:=by
 obtain ⟨a,x,q,tA,tB,cl,h1,h2,h3,h4,h5,h6,h7⟩:=h.has
 obtain ⟨ths,chs,tr⟩:=s
 simp only at h1 h2 h3
 subst h1 h2 h3
 have hco:chanOk ⟨n,upto x a,cl⟩=true:=(((qAk _ _).1 hsrc).2.2.2.2.2 0 (by simp)).1
 clear hsrc
 unfold sourceStep
 split
 case isFalse=>exact h
 rename_i hcode
 obtain ⟨w0,w1⟩:=code_in hcode
 obtain ⟨i,rfl⟩:=Int.eq_ofNat_of_zero_le w0
 simp only [Int.toNat_natCast,List.length_cons,List.length_nil] at w1⊢
 clear w0
 have hi:i=0∨i=1:=by omega
 rcases hi with rfl | rfl
 ·
  obtain ⟨at_,regs,st⟩:=tA
  rcases h6 with ⟨e1,e2,h6⟩ | ⟨e1,e2,e3,e4,e5⟩
  ·simp only at e1 h6
   subst e1 e2
   rcases h6 with ⟨b1,b2,b3⟩ | ⟨b1,b2,b3⟩ | ⟨z,b1,b2,b3⟩ | ⟨z,b1,b2,b3,b4⟩ | ⟨z,b1,b2,b3,b4⟩ | ⟨b1,b2,b3,b4⟩ | ⟨z,b1,b2,b3⟩ | ⟨z,b1,b2,b3⟩
   all_goals subst b1 b2
   ·subst b3
    refine ⟨0,x,q,⟨1,[0,1,0,0],0⟩,tB,false,?_,rfl,rfl,h4,h5,.inl ⟨rfl,rfl,.inr (.inl ⟨rfl,rfl,rfl⟩)⟩,h7⟩
    simp [doStep,ins,ordP,ordA,goTo,setReg]
   ·subst b3
    refine ⟨0,x,q,⟨2,[0,1,k,0],0⟩,tB,false,?_,rfl,rfl,h4,h5,.inl ⟨rfl,rfl,.inr (.inr (.inl ⟨0,rfl,rfl,by omega⟩))⟩,h7⟩
    simp [doStep,ins,ordP,ordA,goTo,setReg]
   ·
    have hfull :¬((upto x a).length:Int)=n:=by
     intro e
     simp [sourceCode,ins,ordP,ordA,within,e] at hcode
    have hs:chanSend ⟨n,upto x a,false⟩ a=(⟨n,upto x (a+1),false⟩,0):=by
     unfold chanSend
     rw [hco]
     simp only [Bool.not_true,Bool.or_false,if_false,Bool.false_eq_true]
     rw [if_neg hfull,upto_snoc h4]
    refine ⟨a+1,x,q,⟨3,[a,1,k,z],0⟩,tB,false,?_,?_,?_,by omega,by omega,.inl ⟨rfl,rfl,.inr (.inr (.inr (.inl ⟨z,rfl,by simp,by omega,by omega⟩)))⟩,ordR_more h7 _⟩
    ·simp [doStep,ins,ordP,ordA,goTo,chanStep,reg,hs]
    ·simp [doStep,ins,ordP,ordA,goTo,chanStep,reg,hs]
    ·simp [doStep,ins,ordP,ordA,goTo,chanStep,reg,hs]
   ·refine ⟨a,x,q,⟨4,[a,1,k,z],0⟩,tB,false,?_,rfl,rfl,h4,h5,.inl ⟨rfl,rfl,.inr (.inr (.inr (.inr (.inl ⟨z,rfl,rfl,b3,b4⟩))))⟩,h7⟩
    have hw:IntKind.i64.wrap (a:Int)=a:=wrap64 (by omega) (by omega)
    simp [doStep,ins,ordP,ordA,goTo,setReg,reg,compute,hw]
   ·refine ⟨a,x,q,⟨5,[a,1,k,numb (decide (a<k))],0⟩,tB,false,?_,rfl,rfl,h4,h5,.inl ⟨rfl,rfl,.inr (.inr (.inr (.inr (.inr (.inl ⟨rfl,rfl,b3,b4⟩)))))⟩,h7⟩
    simp [doStep,ins,ordP,ordA,goTo,setReg,reg,compute]
   ·by_cases hak:a<k
    ·refine ⟨a,x,q,⟨6,[a,1,k,numb (decide (a<k))],0⟩,tB,false,?_,?_,?_,h4,h5,.inl ⟨rfl,rfl,.inr (.inr (.inr (.inr (.inr (.inr (.inl ⟨_,rfl,rfl,hak⟩))))))⟩,h7⟩
     all_goals simp [doStep,ins,ordP,ordA,goTo,reg,hak,numb]
    ·refine ⟨a,x,q,⟨7,[a,1,k,numb (decide (a<k))],0⟩,tB,false,?_,?_,?_,h4,h5,.inl ⟨rfl,rfl,.inr (.inr (.inr (.inr (.inr (.inr (.inr ⟨_,rfl,rfl,by omega⟩))))))⟩,h7⟩
     all_goals simp [doStep,ins,ordP,ordA,goTo,reg,hak,numb]
   ·refine ⟨a,x,q,⟨2,[a,1,k,z],0⟩,tB,false,?_,rfl,rfl,h4,h5,.inl ⟨rfl,rfl,.inr (.inr (.inl ⟨z,rfl,rfl,b3⟩))⟩,h7⟩
    simp [doStep,ins,ordP,ordA,goTo]
   ·have hs:chanClose ⟨n,upto x a,false⟩=(⟨n,upto x a,true⟩,0):=by
     unfold chanClose
     rw [hco]
     rfl
    refine ⟨a,x,q,⟨8,[a,1,k,z],0⟩,tB,true,?_,?_,?_,h4,h5,.inr ⟨rfl,b3,rfl,rfl,.inl rfl⟩,ordR_shut h7⟩
    ·simp [doStep,ins,ordP,ordA,goTo,chanStep,hs]
    ·simp [doStep,ins,ordP,ordA,goTo,chanStep,hs]
    ·simp [doStep,ins,ordP,ordA,goTo,chanStep,hs]
  ·simp only at e3 e4 e5
   subst e1 e3
   rcases e5 with e5 | e5
   ·subst e5
    refine ⟨a,x,q,⟨8,regs,1⟩,tB,true,?_,?_,?_,h4,h5,.inr ⟨rfl,e2,rfl,e4,.inr rfl⟩,h7⟩
    all_goals simp [doStep,ins,ordP,ordA]
   ·exfalso
    subst e5
    simp [sourceCode,ins,ordP,ordA,within] at hcode
 ·
  obtain ⟨at_,regs,st⟩:=tB
  obtain ⟨r0,r1,r2,r3,c0,h7⟩:=h7
  simp only at c0 h7
  subst c0
  rcases h7 with ⟨e0,h7⟩ | ⟨e0,h7⟩
  ·subst e0
   rcases h7 with ⟨b1,b2⟩ | ⟨b1,b2⟩ | ⟨b1,b2,b3⟩ | ⟨b1,b2⟩ | ⟨b1,b2,b3,b4⟩
   all_goals subst b1
   ·
    subst b2
    by_cases hemp:x<a
    ·have hs:chanTake ⟨n,upto x a,cl⟩=((⟨n,upto (x+1) a,cl⟩:Chan),((x:Nat):Int),(0:Int)):=by
      unfold chanTake
      rw [hco]
      simp only [Bool.not_true,if_false,Bool.false_eq_true]
      rw [if_pos (by rw [upto_length]; omega),upto_head hemp]
      rfl
     refine ⟨a,x+1,x,tA,⟨1,[x,1,r2,r3],0⟩,cl,?_,?_,?_,by omega,h5,h6,⟨x,1,r2,r3,rfl,.inl ⟨rfl,.inr (.inl ⟨rfl,.inl ⟨rfl,rfl,rfl⟩⟩)⟩⟩⟩
     ·simp [doStep,ins,ordP,ordB,goTo,chanStep,setReg,hs,numb]
     ·simp [doStep,ins,ordP,ordB,goTo,chanStep,setReg,hs,numb]
     ·simp [doStep,ins,ordP,ordB,goTo,chanStep,setReg,hs,numb]
    ·have hxa:x=a:=by omega
     subst hxa
     have hlz:upto x x=[]:=by simp [upto]
     cases cl
     ·exfalso
      simp [sourceCode,ins,ordP,ordB,within,hlz] at hcode
     have hs:chanTake ⟨n,upto x x,true⟩=(⟨n,upto x x,true⟩,0,3):=by
      unfold chanTake
      rw [hco,hlz]
      rfl
     refine ⟨x,x,x,tA,⟨1,[0,0,r2,r3],0⟩,true,?_,?_,?_,Nat.le_refl _,h5,h6,⟨0,0,r2,r3,rfl,.inl ⟨rfl,.inr (.inl ⟨rfl,.inr ⟨rfl,rfl,rfl,rfl⟩⟩)⟩⟩⟩
     ·simp [doStep,ins,ordP,ordB,goTo,chanStep,setReg,hs,numb]
     ·simp [doStep,ins,ordP,ordB,goTo,chanStep,setReg,hs,numb]
     ·simp [doStep,ins,ordP,ordB,goTo,chanStep,setReg,hs,numb]
   ·rcases b2 with ⟨d1,d2,d3⟩ | ⟨d1,d2,d3,d4⟩
    ·subst d1 d2 d3
     refine ⟨a,q+1,q,tA,⟨2,[q,1,r2,r3],0⟩,cl,?_,rfl,rfl,h4,h5,h6,⟨q,1,r2,r3,rfl,.inl ⟨rfl,.inr (.inr (.inl ⟨rfl,rfl,rfl⟩))⟩⟩⟩
     simp [doStep,ins,ordP,ordB,goTo,reg]
    ·subst d1 d2 d3
     refine ⟨a,x,x,tA,⟨4,[r0,0,r2,r3],0⟩,true,?_,rfl,rfl,h4,h5,h6,⟨r0,0,r2,r3,rfl,.inl ⟨rfl,.inr (.inr (.inr (.inr ⟨rfl,rfl,rfl,d4⟩)))⟩⟩⟩
     simp [doStep,ins,ordP,ordB,goTo,reg]
   ·subst b2 b3
    refine ⟨a,q+1,q+1,tA,⟨3,[q,r1,r2,r3],0⟩,cl,?_,?_,?_,h4,h5,h6,⟨q,r1,r2,r3,rfl,.inl ⟨rfl,.inr (.inr (.inr (.inl ⟨rfl,rfl⟩)))⟩⟩⟩
    ·simp [doStep,ins,ordP,ordB,goTo,reg]
    ·simp [doStep,ins,ordP,ordB,goTo,reg]
    ·rw [←ordTr_snoc]
     simp [doStep,ins,ordP,ordB,goTo,reg]
   ·subst b2
    refine ⟨a,x,x,tA,⟨0,[r0,r1,r2,r3],0⟩,cl,?_,rfl,rfl,h4,h5,h6,⟨r0,r1,r2,r3,rfl,.inl ⟨rfl,.inl ⟨rfl,rfl⟩⟩⟩⟩
    simp [doStep,ins,ordP,ordB,goTo]
   ·subst b2 b3
    refine ⟨a,x,x,tA,⟨4,[r0,r1,r2,r3],1⟩,true,?_,rfl,rfl,h4,h5,h6,⟨r0,r1,r2,r3,rfl,.inr ⟨rfl,rfl,rfl,rfl,b4⟩⟩⟩
    simp [doStep,ins,ordP,ordB]
  ·exfalso
   subst e0
   simp [sourceCode,ins,ordP,ordB,within] at hcode
theorem Ord.run {n k:Nat} (hn:1≤n) (hn4:n≤4) (hk1:1≤k) (hk:k≤7) :∀(l:List Int) {s:Source},Ord n k s→sourceOk (ordP n k) s=true→Ord n k (srun (ordP n k) s l)∧sourceOk (ordP n k) (srun (ordP n k) s l)=true
 | [],s,h,hs=>⟨h,hs⟩
 | x::l,s,h,hs=>Ord.run hn hn4 hk1 hk l (h.step hn hn4 hk1 hk hs x) (sourceStep_keeps x hs)
def Beside (p:Prog) (Q:Source→Prop) (m:Machine):Prop :=∃s,Inv p m s∧Q s
theorem Beside.pick {p:Prog} {Q:Source→Prop} (hQ :∀s who,sourceOk p s=true→Q s→Q (sourceStep p s who).1) {m:Machine} (h:Beside p Q m) (x:Pick):Beside p Q (mstep m x).1:=by
 obtain ⟨s,h1,h2⟩:=h
 rcases h1.pick x with ⟨_,h3⟩ | ⟨_,_,h3⟩
 ·exact ⟨s,h3,h2⟩
 ·exact ⟨_,h3,hQ s x.who h1.src h2⟩
theorem Beside.rst {p:Prog} {Q:Source→Prop} (hQ :∀s who,sourceOk p s=true→Q s→Q (sourceStep p s who).1) (i:Nat) :∀(n:Nat) {m:Machine},Beside p Q m→Beside p Q (rst p i n m)
 | 0,_,h=>h
 | n+1,m,h=>by
  unfold Go.Sep.rst
  split
  ·exact Beside.rst hQ i n (h.pick hQ ⟨i,0⟩)
  ·exact h
theorem Beside.row {p:Prog} {Q:Source→Prop} (hQ :∀s who,sourceOk p s=true→Q s→Q (sourceStep p s who).1) :∀(l:List Nat) {m:Machine},Beside p Q m→Beside p Q (rowM p l m)
 | [],_,h=>h
 | i::l,m,h=>Beside.row hQ l (m:=Go.Sep.rst p i 40 m) (h.rst hQ i 40)
theorem Inv.over {p:Prog} {m:Machine} {s:Source} (h:Inv p m s) {i:Nat} (hi:i<m.cores.length) (hst:(coreAt m i).st≠0):(thd s i).st≠0:=by
 obtain ⟨own,hC,_⟩:=h.own
 cases hC i hi with
 | over h1 hs ho=>rw [hs]; exact h1
 | out k h1 _ _ _ _ _=>exact absurd h1 hst
 | inner j n N a e fl hj hx hn hc _ _ _ _ _ _ _ _ _=>exact absurd hc.st hst
end Go.Sep
