/- Contracts of functions. -/
import Derived.Test.YtbfklilhgekabaaFxx1
open List renaming map_cons → qZ7, mem_map → wAq
namespace Go.Sep
set_option maxHeartbeats 16000000
open Go.Proofs
set_option linter.unusedSimpArgs false
set_option linter.unusedVariables false
set_option maxRecDepth 100000
structure jA where
 op:Int
 r:Int
 a:Int
 b:Int
 n:Int
 deriving DecidableEq,Inhabited
def qCe (x:jA):List AV:=[.int .i64 x.op,.int .i64 x.r,.int .i64 x.a,.int .i64 x.b,.int .i64 x.n]
def gQ (l:List jA):List (List AV):=l.map qCe
theorem qRi:gQ []=[]:=rfl
theorem tS (l:List jA):(gQ l).length=l.length:=by simp [gQ]
theorem qJr (l k:List jA):gQ l++gQ k=gQ (l++k):=by simp [gQ]
theorem qEb (l:List jA) (n:Nat):(gQ l).drop n=gQ (l.drop n):=by simp [gQ]
theorem qEa (l:List jA) (n:Nat):(gQ l).take n=gQ (l.take n):=by simp [gQ]
theorem qRg (l:List jA) (i:Nat) (op_:Int) (r_:Int) (a_:Int) (b_:Int) (n_:Int):(gQ l).set i [.int .i64 op_,.int .i64 r_,.int .i64 a_,.int .i64 b_,.int .i64 n_]=gQ (l.set i ⟨op_,r_,a_,b_,n_⟩):=by simp [gQ,qCe]
theorem kS (A:Nat→Prop) (l:List jA):yX A (gQ l)↔True:=by
 simp only [iff_true]
 induction l with
 | nil=>trivial
 | cons x l ih=>exact ⟨by simp [qCe,jL,bnd,zS,yZ,uG,jR,vT,uJ,uV,vJ,gI,gX,bC,cA],ih⟩
theorem fJ (l:List jA):nbr (gQ l)↔True:=by
 simp only [iff_true]
 induction l with
 | nil=>trivial
 | cons x l ih=>exact ⟨by simp [qCe,nbs,nb,uF,gA,vM,bE,bS,bD,uC,dT,zE,gL,kK],ih⟩
theorem kQ :∀(l:List jA),bwR (gQ l)=gQ l
 | []=>rfl
 | x::l=>by
  have:=kQ l
  simp only [gQ,qZ7,bwR] at this⊢
  rw [this]
  simp [qCe,bwL,bwC,uS,bL,vD,uT,bF,bR,vQ,dA,dY,bO,hZ]
theorem qO3 (l:List jA):free (gQ l)↔True:=by
 simp only [iff_true]
 intro r hr c hc
 simp only [gQ,wAq] at hr
 obtain ⟨x,_,rfl⟩:=hr
 simp [qCe] at hc
 rcases hc with rfl | rfl | rfl | rfl | rfl<;>rfl
def codes (m:Mode) (l:List (List jA)):List (List AV):=l.map fun b=>[.sl m 5 (gQ b)]
theorem qT3 (m:Mode):codes m []=[]:=rfl
theorem qAu (m:Mode) (l:List (List jA)):(codes m l).length=l.length:=by simp [codes]
theorem qKp (m:Mode) (l k:List (List jA)):codes m l++codes m k=codes m (l++k):=by simp [codes]
theorem qFz (m:Mode) (l:List (List jA)) (n:Nat):(codes m l).drop n=codes m (l.drop n):=by simp [codes]
theorem qFy (m:Mode) (l:List (List jA)) (n:Nat):(codes m l).take n=codes m (l.take n):=by simp [codes]
theorem qT0 (m:Mode) (l:List (List jA)) (i:Nat) (b_:List jA):(codes m l).set i [.sl m 5 (gQ b_)]=codes m (l.set i b_):=by simp [codes]
theorem rM (A:Nat→Prop) (m:Mode) (l:List (List jA)):yX A (codes m l)↔True:=by
 simp only [iff_true]
 induction l with
 | nil=>trivial
 | cons x l ih=>exact ⟨by simp [jL,bnd,zS,yZ,uG,jR,vT,uJ,uV,vJ,gI,gX,bC,cA,kS],ih⟩
theorem hX (l:List (List jA)):nbr (codes .own l)↔True:=by
 simp only [iff_true]
 induction l with
 | nil=>trivial
 | cons x l ih=>exact ⟨by simp [nbs,nb,uF,gA,vM,bE,bS,bD,uC,dT,zE,gL,kK,fJ],ih⟩
theorem pG (m:Mode) :∀(l:List (List jA)),bwR (codes m l)=codes .bw l
 | []=>rfl
 | x::l=>by
  have:=pG m l
  simp only [codes,qZ7,bwR] at this⊢
  rw [this]
  simp [bwL,bwC,uS,bL,vD,uT,bF,bR,vQ,dA,dY,bO,hZ,kQ]
theorem qPe (l:List (List jA)):free (codes .bw l)↔True:=by
 simp only [iff_true]
 intro r hr c hc
 simp only [codes,wAq] at hr
 obtain ⟨x,_,rfl⟩:=hr
 simp [] at hc
 rcases hc with rfl<;>rfl
structure yC where
 v:Int
 view:List Int
 deriving DecidableEq,Inhabited
def nQ (m:Mode) (x:yC):List AV:=[.int .i64 x.v,.sl m 1 (wR x.view)]
def uB (m:Mode) (l:List yC):List (List AV):=l.map (nQ m)
theorem qNx (m:Mode):uB m []=[]:=rfl
theorem rX (m:Mode) (l:List yC):(uB m l).length=l.length:=by simp [uB]
theorem qGy (m:Mode) (l k:List yC):uB m l++uB m k=uB m (l++k):=by simp [uB]
theorem qCa (m:Mode) (l:List yC) (n:Nat):(uB m l).drop n=uB m (l.drop n):=by simp [uB]
theorem qC9 (m:Mode) (l:List yC) (n:Nat):(uB m l).take n=uB m (l.take n):=by simp [uB]
theorem qNu (m:Mode) (l:List yC) (i:Nat) (v_:Int) (view_:List Int):(uB m l).set i [.int .i64 v_,.sl m 1 (wR view_)]=uB m (l.set i ⟨v_,view_⟩):=by simp [uB,nQ]
theorem sJ (A:Nat→Prop) (m:Mode) (l:List yC):yX A (uB m l)↔True:=by
 simp only [iff_true]
 induction l with
 | nil=>trivial
 | cons x l ih=>exact ⟨by simp [nQ,jL,bnd,zS,yZ,uG,jR,vT,uJ,uV,vJ,gI,gX,bC,cA,kS,rM],ih⟩
theorem fA (l:List yC):nbr (uB .own l)↔True:=by
 simp only [iff_true]
 induction l with
 | nil=>trivial
 | cons x l ih=>exact ⟨by simp [nQ,nbs,nb,uF,gA,vM,bE,bS,bD,uC,dT,zE,gL,kK,fJ,hX],ih⟩
theorem pP (m:Mode) :∀(l:List yC),bwR (uB m l)=uB .bw l
 | []=>rfl
 | x::l=>by
  have:=pP m l
  simp only [uB,qZ7,bwR] at this⊢
  rw [this]
  simp [nQ,bwL,bwC,uS,bL,vD,uT,bF,bR,vQ,dA,dY,bO,hZ,kQ,pG]
theorem qL7 (l:List yC):free (uB .bw l)↔True:=by
 simp only [iff_true]
 intro r hr c hc
 simp only [uB,wAq] at hr
 obtain ⟨x,_,rfl⟩:=hr
 simp [nQ] at hc
 rcases hc with rfl | rfl<;>rfl
def zF (m:Mode) (l:List (List yC)):List (List AV):=l.map fun b=>[.sl m 2 (uB m b)]
theorem qVq (m:Mode):zF m []=[]:=rfl
theorem qD1 (m:Mode) (l:List (List yC)):(zF m l).length=l.length:=by simp [zF]
theorem qNc (m:Mode) (l k:List (List yC)):zF m l++zF m k=zF m (l++k):=by simp [zF]
theorem qJ0 (m:Mode) (l:List (List yC)) (n:Nat):(zF m l).drop n=zF m (l.drop n):=by simp [zF]
theorem qIz (m:Mode) (l:List (List yC)) (n:Nat):(zF m l).take n=zF m (l.take n):=by simp [zF]
theorem qVn (m:Mode) (l:List (List yC)) (i:Nat) (b_:List yC):(zF m l).set i [.sl m 2 (uB m b_)]=zF m (l.set i b_):=by simp [zF]
theorem qNb (A:Nat→Prop) (m:Mode) (l:List (List yC)):yX A (zF m l)↔True:=by
 simp only [iff_true]
 induction l with
 | nil=>trivial
 | cons x l ih=>exact ⟨by simp [jL,bnd,zS,yZ,uG,jR,vT,uJ,uV,vJ,gI,gX,bC,cA,kS,rM,sJ],ih⟩
theorem qAx (l:List (List yC)):nbr (zF .own l)↔True:=by
 simp only [iff_true]
 induction l with
 | nil=>trivial
 | cons x l ih=>exact ⟨by simp [nbs,nb,uF,gA,vM,bE,bS,bD,uC,dT,zE,gL,kK,fJ,hX,fA],ih⟩
theorem qKv (m:Mode) :∀(l:List (List yC)),bwR (zF m l)=zF .bw l
 | []=>rfl
 | x::l=>by
  have:=qKv m l
  simp only [zF,qZ7,bwR] at this⊢
  rw [this]
  simp [bwL,bwC,uS,bL,vD,uT,bF,bR,vQ,dA,dY,bO,hZ,kQ,pG,pP]
theorem qT7 (l:List (List yC)):free (zF .bw l)↔True:=by
 simp only [iff_true]
 intro r hr c hc
 simp only [zF,wAq] at hr
 obtain ⟨x,_,rfl⟩:=hr
 simp [] at hc
 rcases hc with rfl<;>rfl
structure uL where
 at_:Int
 regs:List Int
 view:List Int
 st:Int
 deriving DecidableEq,Inhabited
def qCv (m:Mode) (x:uL):List AV:=[.int .i64 x.at_,.sl m 1 (wR x.regs),.sl m 1 (wR x.view),.int .i64 x.st]
def cores (m:Mode) (l:List uL):List (List AV):=l.map (qCv m)
theorem qSx (m:Mode):cores m []=[]:=rfl
theorem qAt (m:Mode) (l:List uL):(cores m l).length=l.length:=by simp [cores]
theorem qKn (m:Mode) (l k:List uL):cores m l++cores m k=cores m (l++k):=by simp [cores]
theorem qFw (m:Mode) (l:List uL) (n:Nat):(cores m l).drop n=cores m (l.drop n):=by simp [cores]
theorem qFv (m:Mode) (l:List uL) (n:Nat):(cores m l).take n=cores m (l.take n):=by simp [cores]
theorem qSu (m:Mode) (l:List uL) (i:Nat) (at__:Int) (regs_:List Int) (view_:List Int) (st_:Int):(cores m l).set i [.int .i64 at__,.sl m 1 (wR regs_),.sl m 1 (wR view_),.int .i64 st_]=cores m (l.set i ⟨at__,regs_,view_,st_⟩):=by simp [cores,qCv]
theorem qSy (A:Nat→Prop) (m:Mode) (l:List uL):yX A (cores m l)↔True:=by
 simp only [iff_true]
 induction l with
 | nil=>trivial
 | cons x l ih=>exact ⟨by simp [qCv,jL,bnd,zS,yZ,uG,jR,vT,uJ,uV,vJ,gI,gX,bC,cA,kS,rM,sJ,qNb],ih⟩
theorem qAs (l:List uL):nbr (cores .own l)↔True:=by
 simp only [iff_true]
 induction l with
 | nil=>trivial
 | cons x l ih=>exact ⟨by simp [qCv,nbs,nb,uF,gA,vM,bE,bS,bD,uC,dT,zE,gL,kK,fJ,hX,fA,qAx],ih⟩
theorem qN4 (m:Mode) :∀(l:List uL),bwR (cores m l)=cores .bw l
 | []=>rfl
 | x::l=>by
  have:=qN4 m l
  simp only [cores,qZ7,bwR] at this⊢
  rw [this]
  simp [qCv,bwL,bwC,uS,bL,vD,uT,bF,bR,vQ,dA,dY,bO,hZ,kQ,pG,pP,qKv]
theorem qPb (l:List uL):free (cores .bw l)↔True:=by
 simp only [iff_true]
 intro r hr c hc
 simp only [cores,wAq] at hr
 obtain ⟨x,_,rfl⟩:=hr
 simp [qCv] at hc
 rcases hc with rfl | rfl | rfl | rfl<;>rfl
structure qL6 where
 who:Int
 late:Int
 deriving DecidableEq,Inhabited
def qXa (x:qL6):List AV:=[.int .i64 x.who,.int .i64 x.late]
structure qW3 where
 cells:List (List yC)
 deriving DecidableEq,Inhabited
def qQu (m:Mode) (x:qW3):List AV:=[.sl m 1 (zF m x.cells)]
structure qR where
 codes:List (List jA)
 cores:List uL
 mem:qW3
 tr:List gJ
 deriving DecidableEq,Inhabited
def qMb (m:Mode) (x:qR):List AV:=[.sl m 1 (codes m x.codes),.sl m 4 (cores m x.cores),.sl m 1 (zF m x.mem.cells),.sl m 2 (jC x.tr)]
attribute [go_sem] tS qJr qEb qEa qRg qCe qAu qKp qFz qFy qT0 rX qGy qCa qC9 qNu nQ qD1 qNc qJ0 qIz qVn qAt qKn qFw qFv qSu qCv qXa qQu qMb
attribute [simp] qRi kQ kS fJ tS qEa qEb qO3 qT3 pG rM hX qAu qFy qFz qPe qNx pP sJ fA rX qC9 qCa qL7 qVq qKv qNb qAx qD1 qIz qJ0 qT7 qSx qN4 qSy qAs qAt qFv qFw qPb qCe nQ qCv qXa qQu qMb
attribute [local go_sem] qVd
def rU (b:Int):List jA:=[⟨1,7,0,0,0⟩,⟨7,0,-1,7,b⟩]
def fR (f b:Int):List jA:=[⟨1,7,0,0,1⟩,⟨8,6,0,7,b⟩,⟨11,0,6,0,f+4⟩,⟨10,0,0,0,f+0⟩]
def nX (f b:Int):List jA:=[⟨5,4,-1,0,b+3⟩,⟨11,0,4,0,f+9⟩]++rU b++[⟨13,0,0,0,0⟩]
@[simp] theorem qMe (b:Int):(rU b).length=2:=rfl
@[simp] theorem qK8 (f b:Int):(fR f b).length=4:=rfl
@[simp] theorem qJz (f b:Int):(nX f b).length=5:=rfl
def tY (f b c:Int) (x:Ins):List jA :=
 nX f b++[⟨5,5,-1,0,b+2⟩,⟨1,7,0,0,c⟩,⟨4,6,5,7,0⟩,⟨11,0,6,0,f+(26+uK (decide (x.op=7)))⟩,⟨5,4,-1,0,b+1⟩,⟨2,4,4,5,0⟩,⟨4,6,4,7,0⟩,⟨11,0,6,0,f+18⟩,⟨10,0,0,0,f+19⟩,⟨3,4,4,7,0⟩,⟨6,0,4,x.a,b+4⟩,⟨1,7,0,0,1⟩,⟨2,5,5,7,0⟩,⟨6,0,-1,5,b+2⟩]++rU b ++
 (if x.op=7 then [⟨1,x.r,0,0,1⟩,⟨10,0,0,0,f+31⟩]++rU b++[⟨1,x.r,0,0,0⟩,⟨10,0,0,0,f+31⟩] else [⟨10,0,0,0,f+29⟩]++rU b++[⟨10,0,0,0,f+0⟩])
def tQ (f b c:Int) (x:Ins):List jA :=
 [⟨5,5,-1,0,b+2⟩,⟨11,0,5,0,f+22⟩,⟨5,4,-1,0,b+1⟩,⟨5,x.r,4,0,b+4⟩,⟨1,7,0,0,1⟩,⟨2,4,4,7,0⟩,⟨3,5,5,7,0⟩,⟨1,7,0,0,c⟩,⟨4,6,4,7,0⟩,⟨11,0,6,0,f+15⟩,⟨10,0,0,0,f+16⟩,⟨1,4,0,0,0⟩,⟨6,0,-1,4,b+1⟩,⟨6,0,-1,5,b+2⟩]++rU b++[⟨1,x.b,0,0,1⟩,⟨10,0,0,0,f+(if x.op=8 then 32 else 30)⟩,⟨5,4,-1,0,b+3⟩]++rU b++[⟨11,0,4,0,f+29⟩,⟨1,x.r,0,0,0⟩] ++
 (if x.op=8 then [⟨1,x.b,0,0,2⟩,⟨10,0,0,0,f+32⟩,⟨1,x.r,0,0,0⟩,⟨1,x.b,0,0,0⟩,⟨10,0,0,0,f+32⟩] else [⟨1,x.b,0,0,0⟩,⟨10,0,0,0,f+30⟩,⟨10,0,0,0,f+0⟩])
def mQ (f b:Int):List jA:=nX f b++[⟨1,7,0,0,1⟩,⟨6,0,-1,7,b+3⟩]++rU b
def wK (x:Ins):Int:=if x.op=5 then 29 else if x.op=7 then 31 else if x.op=6 then 30 else if x.op=8 then 32 else if x.op=9 then 13 else uK (qO x.op 1 13)
theorem qSe (b:Int):(rU b).take 2=rU b:=rfl
theorem qOp (f b:Int):(fR f b).take 4=fR f b:=rfl
theorem qO6 (f b:Int):(nX f b).take 5=nX f b:=rfl
attribute [local go_sem] qSe qOp qO6 qMe qK8 qJz
def qB9 (x:jA) (pl:Int):Bool :=
 qO x.r 0 7&&qO x.b 0 7&&(qO x.a 0 7||((decide (x.op=5)||decide (x.op=6)||decide (x.op=7))&&decide (x.a=-1))) &&
 (if x.op=1 then qO x.n (-1000000000) 1000000000&&decide (x.a=0)&&decide (x.b=0)
  else if x.op=2∨x.op=3∨x.op=4 then decide (x.n=0)
  else if x.op=5 then qO x.n 0 23&&decide (x.b=0)
  else if x.op=6∨x.op=7 then qO x.n 0 23&&decide (x.r=0)
  else if x.op=8 then qO x.n 0 23&&decide (x.a=0)
  else if x.op=9 then decide (x.r=0)&&decide (x.b=0)&&decide (x.n=0)
  else if x.op=10 then decide (0≤x.n)&&decide (x.n<pl)&&decide (x.r=0)&&decide (x.a=0)&&decide (x.b=0)
  else if x.op=11 then decide (0≤x.n)&&decide (x.n<pl)&&decide (x.r=0)&&decide (x.b=0)
  else if x.op=12∨x.op=13 then decide (x.r=0)&&(decide (x.a=0)&&(decide (x.b=0)&&decide (x.n=0)))
  else false)
end Go.Sep
