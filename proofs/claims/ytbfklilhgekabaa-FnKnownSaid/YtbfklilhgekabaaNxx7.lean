/- Contracts of functions. -/
import Derived.Test.YtbfklilhgekabaaNxx1
open List renaming map_cons → qX6, mem_map → qYp
namespace Go.Sep
set_option maxHeartbeats 16000000
open Go.Proofs
set_option linter.unusedSimpArgs false
set_option linter.unusedVariables false
set_option maxRecDepth 100000
structure jC where
 op:Int
 r:Int
 a:Int
 b:Int
 n:Int
 deriving DecidableEq,Inhabited
def qB5 (x:jC):List AV:=[.int .i64 x.op,.int .i64 x.r,.int .i64 x.a,.int .i64 x.b,.int .i64 x.n]
def gN (l:List jC):List (List AV):=l.map qB5
theorem qPn:gN []=[]:=rfl
theorem rU (l:List jC):(gN l).length=l.length:=by simp [gN]
theorem qI7 (l k:List jC):gN l++gN k=gN (l++k):=by simp [gN]
theorem qCy (l:List jC) (n:Nat):(gN l).drop n=gN (l.drop n):=by simp [gN]
theorem qCx (l:List jC) (n:Nat):(gN l).take n=gN (l.take n):=by simp [gN]
theorem qPl (l:List jC) (i:Nat) (op_:Int) (r_:Int) (a_:Int) (b_:Int) (n_:Int):(gN l).set i [.int .i64 op_,.int .i64 r_,.int .i64 a_,.int .i64 b_,.int .i64 n_]=gN (l.set i ⟨op_,r_,a_,b_,n_⟩):=by simp [gN,qB5]
theorem iQ (A:Nat→Prop) (l:List jC):yL A (gN l)↔True:=by
 simp only [iff_true]
 induction l with
 | nil=>trivial
 | cons x l ih=>exact ⟨by simp [qB5,yQ,bnd,zL,jB,uB,jR,vR,uF,uS,vE,gC,gT,uY,eI],ih⟩
theorem cQ (l:List jC):nbr (gN l)↔True:=by
 simp only [iff_true]
 induction l with
 | nil=>trivial
 | cons x l ih=>exact ⟨by simp [qB5,nbs,nb,uA,bS,vI,bB,bP,bA,vX,dM,dV,gH,iI],ih⟩
theorem iP :∀(l:List jC),bwR (gN l)=gN l
 | []=>rfl
 | x::l=>by
  have:=iP l
  simp only [gN,qX6,bwR] at this⊢
  rw [this]
  simp [qB5,bwL,bwC,uN,bH,jY,uO,bD,bN,vN,gW,dP,bL,fG]
theorem qM7 (l:List jC):free (gN l)↔True:=by
 simp only [iff_true]
 intro r hr c hc
 simp only [gN,qYp] at hr
 obtain ⟨x,_,rfl⟩:=hr
 simp [qB5] at hc
 rcases hc with rfl | rfl | rfl | rfl | rfl<;>rfl
def codes (m:Mode) (l:List (List jC)):List (List AV):=l.map fun b=>[.sl m 5 (gN b)]
theorem qR5 (m:Mode):codes m []=[]:=rfl
theorem tI (m:Mode) (l:List (List jC)):(codes m l).length=l.length:=by simp [codes]
theorem qJ1 (m:Mode) (l k:List (List jC)):codes m l++codes m k=codes m (l++k):=by simp [codes]
theorem qEk (m:Mode) (l:List (List jC)) (n:Nat):(codes m l).drop n=codes m (l.drop n):=by simp [codes]
theorem qEj (m:Mode) (l:List (List jC)) (n:Nat):(codes m l).take n=codes m (l.take n):=by simp [codes]
theorem qR2 (m:Mode) (l:List (List jC)) (i:Nat) (b_:List jC):(codes m l).set i [.sl m 5 (gN b_)]=codes m (l.set i b_):=by simp [codes]
theorem oT (A:Nat→Prop) (m:Mode) (l:List (List jC)):yL A (codes m l)↔True:=by
 simp only [iff_true]
 induction l with
 | nil=>trivial
 | cons x l ih=>exact ⟨by simp [yQ,bnd,zL,jB,uB,jR,vR,uF,uS,vE,gC,gT,uY,eI,iQ],ih⟩
theorem fE (l:List (List jC)):nbr (codes .own l)↔True:=by
 simp only [iff_true]
 induction l with
 | nil=>trivial
 | cons x l ih=>exact ⟨by simp [nbs,nb,uA,bS,vI,bB,bP,bA,vX,dM,dV,gH,iI,cQ],ih⟩
theorem nP (m:Mode) :∀(l:List (List jC)),bwR (codes m l)=codes .bw l
 | []=>rfl
 | x::l=>by
  have:=nP m l
  simp only [codes,qX6,bwR] at this⊢
  rw [this]
  simp [bwL,bwC,uN,bH,jY,uO,bD,bN,vN,gW,dP,bL,fG,iP]
theorem qNh (l:List (List jC)):free (codes .bw l)↔True:=by
 simp only [iff_true]
 intro r hr c hc
 simp only [codes,qYp] at hr
 obtain ⟨x,_,rfl⟩:=hr
 simp [] at hc
 rcases hc with rfl<;>rfl
structure wZ where
 v:Int
 view:List Int
 deriving DecidableEq,Inhabited
def mE (m:Mode) (x:wZ):List AV:=[.int .i64 x.v,.sl m 1 (wT x.view)]
def vW (m:Mode) (l:List wZ):List (List AV):=l.map (mE m)
theorem qM1 (m:Mode):vW m []=[]:=rfl
theorem pB (m:Mode) (l:List wZ):(vW m l).length=l.length:=by simp [vW]
theorem qFh (m:Mode) (l k:List wZ):vW m l++vW m k=vW m (l++k):=by simp [vW]
theorem qB0 (m:Mode) (l:List wZ) (n:Nat):(vW m l).drop n=vW m (l.drop n):=by simp [vW]
theorem qAz (m:Mode) (l:List wZ) (n:Nat):(vW m l).take n=vW m (l.take n):=by simp [vW]
theorem qLy (m:Mode) (l:List wZ) (i:Nat) (v_:Int) (view_:List Int):(vW m l).set i [.int .i64 v_,.sl m 1 (wT view_)]=vW m (l.set i ⟨v_,view_⟩):=by simp [vW,mE]
theorem pQ (A:Nat→Prop) (m:Mode) (l:List wZ):yL A (vW m l)↔True:=by
 simp only [iff_true]
 induction l with
 | nil=>trivial
 | cons x l ih=>exact ⟨by simp [mE,yQ,bnd,zL,jB,uB,jR,vR,uF,uS,vE,gC,gT,uY,eI,iQ,oT],ih⟩
theorem cH (l:List wZ):nbr (vW .own l)↔True:=by
 simp only [iff_true]
 induction l with
 | nil=>trivial
 | cons x l ih=>exact ⟨by simp [mE,nbs,nb,uA,bS,vI,bB,bP,bA,vX,dM,dV,gH,iI,cQ,fE],ih⟩
theorem oA (m:Mode) :∀(l:List wZ),bwR (vW m l)=vW .bw l
 | []=>rfl
 | x::l=>by
  have:=oA m l
  simp only [vW,qX6,bwR] at this⊢
  rw [this]
  simp [mE,bwL,bwC,uN,bH,jY,uO,bD,bN,vN,gW,dP,bL,fG,iP,nP]
theorem qJl (l:List wZ):free (vW .bw l)↔True:=by
 simp only [iff_true]
 intro r hr c hc
 simp only [vW,qYp] at hr
 obtain ⟨x,_,rfl⟩:=hr
 simp [mE] at hc
 rcases hc with rfl | rfl<;>rfl
def dX (m:Mode) (l:List (List wZ)):List (List AV):=l.map fun b=>[.sl m 2 (vW m b)]
theorem qTq (m:Mode):dX m []=[]:=rfl
theorem qBt (m:Mode) (l:List (List wZ)):(dX m l).length=l.length:=by simp [dX]
theorem qLh (m:Mode) (l k:List (List wZ)):dX m l++dX m k=dX m (l++k):=by simp [dX]
theorem qHi (m:Mode) (l:List (List wZ)) (n:Nat):(dX m l).drop n=dX m (l.drop n):=by simp [dX]
theorem qHh (m:Mode) (l:List (List wZ)) (n:Nat):(dX m l).take n=dX m (l.take n):=by simp [dX]
theorem qTn (m:Mode) (l:List (List wZ)) (i:Nat) (b_:List wZ):(dX m l).set i [.sl m 2 (vW m b_)]=dX m (l.set i b_):=by simp [dX]
theorem qLg (A:Nat→Prop) (m:Mode) (l:List (List wZ)):yL A (dX m l)↔True:=by
 simp only [iff_true]
 induction l with
 | nil=>trivial
 | cons x l ih=>exact ⟨by simp [yQ,bnd,zL,jB,uB,jR,vR,uF,uS,vE,gC,gT,uY,eI,iQ,oT,pQ],ih⟩
theorem tL (l:List (List wZ)):nbr (dX .own l)↔True:=by
 simp only [iff_true]
 induction l with
 | nil=>trivial
 | cons x l ih=>exact ⟨by simp [nbs,nb,uA,bS,vI,bB,bP,bA,vX,dM,dV,gH,iI,cQ,fE,cH],ih⟩
theorem qJ7 (m:Mode) :∀(l:List (List wZ)),bwR (dX m l)=dX .bw l
 | []=>rfl
 | x::l=>by
  have:=qJ7 m l
  simp only [dX,qX6,bwR] at this⊢
  rw [this]
  simp [bwL,bwC,uN,bH,jY,uO,bD,bN,vN,gW,dP,bL,fG,iP,nP,oA]
theorem qR8 (l:List (List wZ)):free (dX .bw l)↔True:=by
 simp only [iff_true]
 intro r hr c hc
 simp only [dX,qYp] at hr
 obtain ⟨x,_,rfl⟩:=hr
 simp [] at hc
 rcases hc with rfl<;>rfl
structure uH where
 at_:Int
 regs:List Int
 view:List Int
 st:Int
 deriving DecidableEq,Inhabited
def qBn (m:Mode) (x:uH):List AV:=[.int .i64 x.at_,.sl m 1 (wT x.regs),.sl m 1 (wT x.view),.int .i64 x.st]
def cores (m:Mode) (l:List uH):List (List AV):=l.map (qBn m)
theorem qQz (m:Mode):cores m []=[]:=rfl
theorem tH (m:Mode) (l:List uH):(cores m l).length=l.length:=by simp [cores]
theorem qIz (m:Mode) (l k:List uH):cores m l++cores m k=cores m (l++k):=by simp [cores]
theorem qEh (m:Mode) (l:List uH) (n:Nat):(cores m l).drop n=cores m (l.drop n):=by simp [cores]
theorem qEg (m:Mode) (l:List uH) (n:Nat):(cores m l).take n=cores m (l.take n):=by simp [cores]
theorem qQw (m:Mode) (l:List uH) (i:Nat) (at__:Int) (regs_:List Int) (view_:List Int) (st_:Int):(cores m l).set i [.int .i64 at__,.sl m 1 (wT regs_),.sl m 1 (wT view_),.int .i64 st_]=cores m (l.set i ⟨at__,regs_,view_,st_⟩):=by simp [cores,qBn]
theorem qR0 (A:Nat→Prop) (m:Mode) (l:List uH):yL A (cores m l)↔True:=by
 simp only [iff_true]
 induction l with
 | nil=>trivial
 | cons x l ih=>exact ⟨by simp [qBn,yQ,bnd,zL,jB,uB,jR,vR,uF,uS,vE,gC,gT,uY,eI,iQ,oT,pQ,qLg],ih⟩
theorem tG (l:List uH):nbr (cores .own l)↔True:=by
 simp only [iff_true]
 induction l with
 | nil=>trivial
 | cons x l ih=>exact ⟨by simp [qBn,nbs,nb,uA,bS,vI,bB,bP,bA,vX,dM,dV,gH,iI,cQ,fE,cH,tL],ih⟩
theorem qLa (m:Mode) :∀(l:List uH),bwR (cores m l)=cores .bw l
 | []=>rfl
 | x::l=>by
  have:=qLa m l
  simp only [cores,qX6,bwR] at this⊢
  rw [this]
  simp [qBn,bwL,bwC,uN,bH,jY,uO,bD,bN,vN,gW,dP,bL,fG,iP,nP,oA,qJ7]
theorem qNe (l:List uH):free (cores .bw l)↔True:=by
 simp only [iff_true]
 intro r hr c hc
 simp only [cores,qYp] at hr
 obtain ⟨x,_,rfl⟩:=hr
 simp [qBn] at hc
 rcases hc with rfl | rfl | rfl | rfl<;>rfl
structure qJj where
 who:Int
 late:Int
 deriving DecidableEq,Inhabited
def qVa (x:qJj):List AV:=[.int .i64 x.who,.int .i64 x.late]
structure qU5 where
 cells:List (List wZ)
 deriving DecidableEq,Inhabited
def qOy (m:Mode) (x:qU5):List AV:=[.sl m 1 (dX m x.cells)]
structure qQ where
 codes:List (List jC)
 cores:List uH
 mem:qU5
 tr:List gM
 deriving DecidableEq,Inhabited
def qKm (m:Mode) (x:qQ):List AV:=[.sl m 1 (codes m x.codes),.sl m 4 (cores m x.cores),.sl m 1 (dX m x.mem.cells),.sl m 2 (jK x.tr)]
attribute [go_sem] rU qI7 qCy qCx qPl qB5 tI qJ1 qEk qEj qR2 pB qFh qB0 qAz qLy mE qBt qLh qHi qHh qTn tH qIz qEh qEg qQw qBn qVa qOy qKm
attribute [simp] qPn iP iQ cQ rU qCx qCy qM7 qR5 nP oT fE tI qEj qEk qNh qM1 oA pQ cH pB qAz qB0 qJl qTq qJ7 qLg tL qBt qHh qHi qR8 qQz qLa qR0 tG tH qEg qEh qNe qB5 mE qBn qVa qOy qKm
attribute [local go_sem] qTd
def pA (b:Int):List jC:=[⟨1,7,0,0,0⟩,⟨7,0,-1,7,b⟩]
def cY (f b:Int):List jC:=[⟨1,7,0,0,1⟩,⟨8,6,0,7,b⟩,⟨11,0,6,0,f+4⟩,⟨10,0,0,0,f+0⟩]
def mJ (f b:Int):List jC:=[⟨5,4,-1,0,b+3⟩,⟨11,0,4,0,f+9⟩]++pA b++[⟨13,0,0,0,0⟩]
@[simp] theorem qKo (b:Int):(pA b).length=2:=rfl
@[simp] theorem qIl (f b:Int):(cY f b).length=4:=rfl
@[simp] theorem qIe (f b:Int):(mJ f b).length=5:=rfl
def sA (f b c:Int) (x:Ins):List jC :=
 mJ f b++[⟨5,5,-1,0,b+2⟩,⟨1,7,0,0,c⟩,⟨4,6,5,7,0⟩,⟨11,0,6,0,f+(26+uG (decide (x.op=7)))⟩,⟨5,4,-1,0,b+1⟩,⟨2,4,4,5,0⟩,⟨4,6,4,7,0⟩,⟨11,0,6,0,f+18⟩,⟨10,0,0,0,f+19⟩,⟨3,4,4,7,0⟩,⟨6,0,4,x.a,b+4⟩,⟨1,7,0,0,1⟩,⟨2,5,5,7,0⟩,⟨6,0,-1,5,b+2⟩]++pA b ++
 (if x.op=7 then [⟨1,x.r,0,0,1⟩,⟨10,0,0,0,f+31⟩]++pA b++[⟨1,x.r,0,0,0⟩,⟨10,0,0,0,f+31⟩] else [⟨10,0,0,0,f+29⟩]++pA b++[⟨10,0,0,0,f+0⟩])
def rS (f b c:Int) (x:Ins):List jC :=
 [⟨5,5,-1,0,b+2⟩,⟨11,0,5,0,f+22⟩,⟨5,4,-1,0,b+1⟩,⟨5,x.r,4,0,b+4⟩,⟨1,7,0,0,1⟩,⟨2,4,4,7,0⟩,⟨3,5,5,7,0⟩,⟨1,7,0,0,c⟩,⟨4,6,4,7,0⟩,⟨11,0,6,0,f+15⟩,⟨10,0,0,0,f+16⟩,⟨1,4,0,0,0⟩,⟨6,0,-1,4,b+1⟩,⟨6,0,-1,5,b+2⟩]++pA b++[⟨1,x.b,0,0,1⟩,⟨10,0,0,0,f+(if x.op=8 then 32 else 30)⟩,⟨5,4,-1,0,b+3⟩]++pA b++[⟨11,0,4,0,f+29⟩,⟨1,x.r,0,0,0⟩] ++
 (if x.op=8 then [⟨1,x.b,0,0,2⟩,⟨10,0,0,0,f+32⟩,⟨1,x.r,0,0,0⟩,⟨1,x.b,0,0,0⟩,⟨10,0,0,0,f+32⟩] else [⟨1,x.b,0,0,0⟩,⟨10,0,0,0,f+30⟩,⟨10,0,0,0,f+0⟩])
def lN (f b:Int):List jC:=mJ f b++[⟨1,7,0,0,1⟩,⟨6,0,-1,7,b+3⟩]++pA b
def wE (x:Ins):Int:=if x.op=5 then 29 else if x.op=7 then 31 else if x.op=6 then 30 else if x.op=8 then 32 else if x.op=9 then 13 else uG (qS x.op 1 13)
theorem qQi (b:Int):(pA b).take 2=pA b:=rfl
theorem qMu (f b:Int):(cY f b).take 4=cY f b:=rfl
theorem qMa (f b:Int):(mJ f b).take 5=mJ f b:=rfl
attribute [local go_sem] qQi qMu qMa qKo qIl qIe
def tY (x:jC) (pl:Int):Bool :=
 qS x.r 0 7&&qS x.b 0 7&&(qS x.a 0 7||((decide (x.op=5)||decide (x.op=6)||decide (x.op=7))&&decide (x.a=-1))) &&
 (if x.op=1 then qS x.n (-1000000000) 1000000000&&decide (x.a=0)&&decide (x.b=0)
  else if x.op=2∨x.op=3∨x.op=4 then decide (x.n=0)
  else if x.op=5 then qS x.n 0 23&&decide (x.b=0)
  else if x.op=6∨x.op=7 then qS x.n 0 23&&decide (x.r=0)
  else if x.op=8 then qS x.n 0 23&&decide (x.a=0)
  else if x.op=9 then decide (x.r=0)&&decide (x.b=0)&&decide (x.n=0)
  else if x.op=10 then decide (0≤x.n)&&decide (x.n<pl)&&decide (x.r=0)&&decide (x.a=0)&&decide (x.b=0)
  else if x.op=11 then decide (0≤x.n)&&decide (x.n<pl)&&decide (x.r=0)&&decide (x.b=0)
  else if x.op=12∨x.op=13 then decide (x.r=0)&&(decide (x.a=0)&&(decide (x.b=0)&&decide (x.n=0)))
  else false)
end Go.Sep
