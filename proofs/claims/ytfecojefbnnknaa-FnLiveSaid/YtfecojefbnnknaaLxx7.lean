/- Contracts of functions. -/
import Derived.Test.YtfecojefbnnknaaLxx1
open List renaming map_cons → qZr, mem_map → wBa
namespace Go.Sep
set_option maxHeartbeats 16000000
open Go.Proofs
set_option linter.unusedSimpArgs false
set_option linter.unusedVariables false
set_option maxRecDepth 100000
structure yV where
 op:Int
 r:Int
 a:Int
 b:Int
 n:Int
 deriving DecidableEq,Inhabited
def qBl (x:yV):List AV:=[.int .i64 x.op,.int .i64 x.r,.int .i64 x.a,.int .i64 x.b,.int .i64 x.n]
def gI (l:List yV):List (List AV):=l.map qBl
theorem qQy:gI []=[]:=rfl
theorem rX (l:List yV):(gI l).length=l.length:=by simp [gI]
theorem qIy (l k:List yV):gI l++gI k=gI (l++k):=by simp [gI]
theorem qDp (l:List yV) (n:Nat):(gI l).drop n=gI (l.drop n):=by simp [gI]
theorem qDo (l:List yV) (n:Nat):(gI l).take n=gI (l.take n):=by simp [gI]
theorem qQw (l:List yV) (i:Nat) (op_:Int) (r_:Int) (a_:Int) (b_:Int) (n_:Int):(gI l).set i [.int .i64 op_,.int .i64 r_,.int .i64 a_,.int .i64 b_,.int .i64 n_]=gI (l.set i ⟨op_,r_,a_,b_,n_⟩):=by simp [gI,qBl]
theorem iM (A:Nat→Prop) (l:List yV):yQ A (gI l)↔True:=by
 simp only [iff_true]
 induction l with
 | nil=>trivial
 | cons x l ih=>exact ⟨by simp [qBl,jF,bnd,zG,yU,uA,jN,vJ,uE,uQ,vF,bW,gP,uX,eF],ih⟩
theorem cO (l:List yV):nbr (gI l)↔True:=by
 simp only [iff_true]
 induction l with
 | nil=>trivial
 | cons x l ih=>exact ⟨by simp [qBl,nbs,nb,vZ,bO,vL,bA,bJ,uY,vX,dL,dT,gA,iG],ih⟩
theorem iL :∀(l:List yV),bwR (gI l)=gI l
 | []=>rfl
 | x::l=>by
  have:=iL l
  simp only [gI,qZr,bwR] at this⊢
  rw [this]
  simp [qBl,bwL,bwC,uL,bE,jX,uO,bB,bH,vP,gU,dO,bG,fD]
theorem qNd (l:List yV):free (gI l)↔True:=by
 simp only [iff_true]
 intro r hr c hc
 simp only [gI,wBa] at hr
 obtain ⟨x,_,rfl⟩:=hr
 simp [qBl] at hc
 rcases hc with rfl | rfl | rfl | rfl | rfl<;>rfl
def codes (m:Mode) (l:List (List yV)):List (List AV):=l.map fun b=>[.sl m 5 (gI b)]
theorem qSn (m:Mode):codes m []=[]:=rfl
theorem tO (m:Mode) (l:List (List yV)):(codes m l).length=l.length:=by simp [codes]
theorem qJy (m:Mode) (l k:List (List yV)):codes m l++codes m k=codes m (l++k):=by simp [codes]
theorem qF6 (m:Mode) (l:List (List yV)) (n:Nat):(codes m l).drop n=codes m (l.drop n):=by simp [codes]
theorem qF5 (m:Mode) (l:List (List yV)) (n:Nat):(codes m l).take n=codes m (l.take n):=by simp [codes]
theorem qSk (m:Mode) (l:List (List yV)) (i:Nat) (b_:List yV):(codes m l).set i [.sl m 5 (gI b_)]=codes m (l.set i b_):=by simp [codes]
theorem oR (A:Nat→Prop) (m:Mode) (l:List (List yV)):yQ A (codes m l)↔True:=by
 simp only [iff_true]
 induction l with
 | nil=>trivial
 | cons x l ih=>exact ⟨by simp [jF,bnd,zG,yU,uA,jN,vJ,uE,uQ,vF,bW,gP,uX,eF,iM],ih⟩
theorem fB (l:List (List yV)):nbr (codes .own l)↔True:=by
 simp only [iff_true]
 induction l with
 | nil=>trivial
 | cons x l ih=>exact ⟨by simp [nbs,nb,vZ,bO,vL,bA,bJ,uY,vX,dL,dT,gA,iG,cO],ih⟩
theorem nO (m:Mode) :∀(l:List (List yV)),bwR (codes m l)=codes .bw l
 | []=>rfl
 | x::l=>by
  have:=nO m l
  simp only [codes,qZr,bwR] at this⊢
  rw [this]
  simp [bwL,bwC,uL,bE,jX,uO,bB,bH,vP,gU,dO,bG,fD,iL]
theorem qOh (l:List (List yV)):free (codes .bw l)↔True:=by
 simp only [iff_true]
 intro r hr c hc
 simp only [codes,wBa] at hr
 obtain ⟨x,_,rfl⟩:=hr
 simp [] at hc
 rcases hc with rfl<;>rfl
structure wZ where
 v:Int
 view:List Int
 deriving DecidableEq,Inhabited
def lY (m:Mode) (x:wZ):List AV:=[.int .i64 x.v,.sl m 1 (wC x.view)]
def vW (m:Mode) (l:List wZ):List (List AV):=l.map (lY m)
theorem qN7 (m:Mode):vW m []=[]:=rfl
theorem pA (m:Mode) (l:List wZ):(vW m l).length=l.length:=by simp [vW]
theorem qG5 (m:Mode) (l k:List wZ):vW m l++vW m k=vW m (l++k):=by simp [vW]
theorem qBg (m:Mode) (l:List wZ) (n:Nat):(vW m l).drop n=vW m (l.drop n):=by simp [vW]
theorem qBf (m:Mode) (l:List wZ) (n:Nat):(vW m l).take n=vW m (l.take n):=by simp [vW]
theorem qN4 (m:Mode) (l:List wZ) (i:Nat) (v_:Int) (view_:List Int):(vW m l).set i [.int .i64 v_,.sl m 1 (wC view_)]=vW m (l.set i ⟨v_,view_⟩):=by simp [vW,lY]
theorem pO (A:Nat→Prop) (m:Mode) (l:List wZ):yQ A (vW m l)↔True:=by
 simp only [iff_true]
 induction l with
 | nil=>trivial
 | cons x l ih=>exact ⟨by simp [lY,jF,bnd,zG,yU,uA,jN,vJ,uE,uQ,vF,bW,gP,uX,eF,iM,oR],ih⟩
theorem cF (l:List wZ):nbr (vW .own l)↔True:=by
 simp only [iff_true]
 induction l with
 | nil=>trivial
 | cons x l ih=>exact ⟨by simp [lY,nbs,nb,vZ,bO,vL,bA,bJ,uY,vX,dL,dT,gA,iG,cO,fB],ih⟩
theorem oA (m:Mode) :∀(l:List wZ),bwR (vW m l)=vW .bw l
 | []=>rfl
 | x::l=>by
  have:=oA m l
  simp only [vW,qZr,bwR] at this⊢
  rw [this]
  simp [lY,bwL,bwC,uL,bE,jX,uO,bB,bH,vP,gU,dO,bG,fD,iL,nO]
theorem qKi (l:List wZ):free (vW .bw l)↔True:=by
 simp only [iff_true]
 intro r hr c hc
 simp only [vW,wBa] at hr
 obtain ⟨x,_,rfl⟩:=hr
 simp [lY] at hc
 rcases hc with rfl | rfl<;>rfl
def dV (m:Mode) (l:List (List wZ)):List (List AV):=l.map fun b=>[.sl m 2 (vW m b)]
theorem qVl (m:Mode):dV m []=[]:=rfl
theorem qCb (m:Mode) (l:List (List wZ)):(dV m l).length=l.length:=by simp [dV]
theorem qMo (m:Mode) (l k:List (List wZ)):dV m l++dV m k=dV m (l++k):=by simp [dV]
theorem qI6 (m:Mode) (l:List (List wZ)) (n:Nat):(dV m l).drop n=dV m (l.drop n):=by simp [dV]
theorem qI5 (m:Mode) (l:List (List wZ)) (n:Nat):(dV m l).take n=dV m (l.take n):=by simp [dV]
theorem qVi (m:Mode) (l:List (List wZ)) (i:Nat) (b_:List wZ):(dV m l).set i [.sl m 2 (vW m b_)]=dV m (l.set i b_):=by simp [dV]
theorem qMn (A:Nat→Prop) (m:Mode) (l:List (List wZ)):yQ A (dV m l)↔True:=by
 simp only [iff_true]
 induction l with
 | nil=>trivial
 | cons x l ih=>exact ⟨by simp [jF,bnd,zG,yU,uA,jN,vJ,uE,uQ,vF,bW,gP,uX,eF,iM,oR,pO],ih⟩
theorem tR (l:List (List wZ)):nbr (dV .own l)↔True:=by
 simp only [iff_true]
 induction l with
 | nil=>trivial
 | cons x l ih=>exact ⟨by simp [nbs,nb,vZ,bO,vL,bA,bJ,uY,vX,dL,dT,gA,iG,cO,fB,cF],ih⟩
theorem qK5 (m:Mode) :∀(l:List (List wZ)),bwR (dV m l)=dV .bw l
 | []=>rfl
 | x::l=>by
  have:=qK5 m l
  simp only [dV,qZr,bwR] at this⊢
  rw [this]
  simp [bwL,bwC,uL,bE,jX,uO,bB,bH,vP,gU,dO,bG,fD,iL,nO,oA]
theorem qSs (l:List (List wZ)):free (dV .bw l)↔True:=by
 simp only [iff_true]
 intro r hr c hc
 simp only [dV,wBa] at hr
 obtain ⟨x,_,rfl⟩:=hr
 simp [] at hc
 rcases hc with rfl<;>rfl
structure uF where
 at_:Int
 regs:List Int
 view:List Int
 st:Int
 deriving DecidableEq,Inhabited
def qC5 (m:Mode) (x:uF):List AV:=[.int .i64 x.at_,.sl m 1 (wC x.regs),.sl m 1 (wC x.view),.int .i64 x.st]
def cores (m:Mode) (l:List uF):List (List AV):=l.map (qC5 m)
theorem qSh (m:Mode):cores m []=[]:=rfl
theorem tN (m:Mode) (l:List uF):(cores m l).length=l.length:=by simp [cores]
theorem qJw (m:Mode) (l k:List uF):cores m l++cores m k=cores m (l++k):=by simp [cores]
theorem qF3 (m:Mode) (l:List uF) (n:Nat):(cores m l).drop n=cores m (l.drop n):=by simp [cores]
theorem qF2 (m:Mode) (l:List uF) (n:Nat):(cores m l).take n=cores m (l.take n):=by simp [cores]
theorem qSe (m:Mode) (l:List uF) (i:Nat) (at__:Int) (regs_:List Int) (view_:List Int) (st_:Int):(cores m l).set i [.int .i64 at__,.sl m 1 (wC regs_),.sl m 1 (wC view_),.int .i64 st_]=cores m (l.set i ⟨at__,regs_,view_,st_⟩):=by simp [cores,qC5]
theorem qSi (A:Nat→Prop) (m:Mode) (l:List uF):yQ A (cores m l)↔True:=by
 simp only [iff_true]
 induction l with
 | nil=>trivial
 | cons x l ih=>exact ⟨by simp [qC5,jF,bnd,zG,yU,uA,jN,vJ,uE,uQ,vF,bW,gP,uX,eF,iM,oR,pO,qMn],ih⟩
theorem tM (l:List uF):nbr (cores .own l)↔True:=by
 simp only [iff_true]
 induction l with
 | nil=>trivial
 | cons x l ih=>exact ⟨by simp [qC5,nbs,nb,vZ,bO,vL,bA,bJ,uY,vX,dL,dT,gA,iG,cO,fB,cF,tR],ih⟩
theorem qMg (m:Mode) :∀(l:List uF),bwR (cores m l)=cores .bw l
 | []=>rfl
 | x::l=>by
  have:=qMg m l
  simp only [cores,qZr,bwR] at this⊢
  rw [this]
  simp [qC5,bwL,bwC,uL,bE,jX,uO,bB,bH,vP,gU,dO,bG,fD,iL,nO,oA,qK5]
theorem qOe (l:List uF):free (cores .bw l)↔True:=by
 simp only [iff_true]
 intro r hr c hc
 simp only [cores,wBa] at hr
 obtain ⟨x,_,rfl⟩:=hr
 simp [qC5] at hc
 rcases hc with rfl | rfl | rfl | rfl<;>rfl
structure qCv where
 who:Int
 late:Int
 deriving DecidableEq,Inhabited
def qXn (x:qCv):List AV:=[.int .i64 x.who,.int .i64 x.late]
structure qVz where
 cells:List (List wZ)
 deriving DecidableEq,Inhabited
def qPz (m:Mode) (x:qVz):List AV:=[.sl m 1 (dV m x.cells)]
structure qR where
 codes:List (List yV)
 cores:List uF
 mem:qVz
 tr:List bK
 deriving DecidableEq,Inhabited
def qLq (m:Mode) (x:qR):List AV:=[.sl m 1 (codes m x.codes),.sl m 4 (cores m x.cores),.sl m 1 (dV m x.mem.cells),.sl m 2 (yT x.tr)]
attribute [go_sem] rX qIy qDp qDo qQw qBl tO qJy qF6 qF5 qSk pA qG5 qBg qBf qN4 lY qCb qMo qI6 qI5 qVi tN qJw qF3 qF2 qSe qC5 qXn qPz qLq
attribute [simp] qQy iL iM cO rX qDo qDp qNd qSn nO oR fB tO qF5 qF6 qOh qN7 oA pO cF pA qBf qBg qKi qVl qK5 qMn tR qCb qI5 qI6 qSs qSh qMg qSi tM tN qF2 qF3 qOe qBl lY qC5 qXn qPz qLq
attribute [local go_sem] qV2
def oZ (b:Int):List yV:=[⟨1,7,0,0,0⟩,⟨7,0,-1,7,b⟩]
def cW (f b:Int):List yV:=[⟨1,7,0,0,1⟩,⟨8,6,0,7,b⟩,⟨11,0,6,0,f+4⟩,⟨10,0,0,0,f+0⟩]
def mD (f b:Int):List yV:=[⟨5,4,-1,0,b+3⟩,⟨11,0,4,0,f+9⟩]++oZ b++[⟨13,0,0,0,0⟩]
@[simp] theorem qLu (b:Int):(oZ b).length=2:=rfl
@[simp] theorem qJi (f b:Int):(cW f b).length=4:=rfl
@[simp] theorem qJ6 (f b:Int):(mD f b).length=5:=rfl
def sD (f b c:Int) (x:Ins):List yV :=
 mD f b++[⟨5,5,-1,0,b+2⟩,⟨1,7,0,0,c⟩,⟨4,6,5,7,0⟩,⟨11,0,6,0,f+(26+uN (decide (x.op=7)))⟩,⟨5,4,-1,0,b+1⟩,⟨2,4,4,5,0⟩,⟨4,6,4,7,0⟩,⟨11,0,6,0,f+18⟩,⟨10,0,0,0,f+19⟩,⟨3,4,4,7,0⟩,⟨6,0,4,x.a,b+4⟩,⟨1,7,0,0,1⟩,⟨2,5,5,7,0⟩,⟨6,0,-1,5,b+2⟩]++oZ b ++
 (if x.op=7 then [⟨1,x.r,0,0,1⟩,⟨10,0,0,0,f+31⟩]++oZ b++[⟨1,x.r,0,0,0⟩,⟨10,0,0,0,f+31⟩] else [⟨10,0,0,0,f+29⟩]++oZ b++[⟨10,0,0,0,f+0⟩])
def rU (f b c:Int) (x:Ins):List yV :=
 [⟨5,5,-1,0,b+2⟩,⟨11,0,5,0,f+22⟩,⟨5,4,-1,0,b+1⟩,⟨5,x.r,4,0,b+4⟩,⟨1,7,0,0,1⟩,⟨2,4,4,7,0⟩,⟨3,5,5,7,0⟩,⟨1,7,0,0,c⟩,⟨4,6,4,7,0⟩,⟨11,0,6,0,f+15⟩,⟨10,0,0,0,f+16⟩,⟨1,4,0,0,0⟩,⟨6,0,-1,4,b+1⟩,⟨6,0,-1,5,b+2⟩]++oZ b++[⟨1,x.b,0,0,1⟩,⟨10,0,0,0,f+(if x.op=8 then 32 else 30)⟩,⟨5,4,-1,0,b+3⟩]++oZ b++[⟨11,0,4,0,f+29⟩,⟨1,x.r,0,0,0⟩] ++
 (if x.op=8 then [⟨1,x.b,0,0,2⟩,⟨10,0,0,0,f+32⟩,⟨1,x.r,0,0,0⟩,⟨1,x.b,0,0,0⟩,⟨10,0,0,0,f+32⟩] else [⟨1,x.b,0,0,0⟩,⟨10,0,0,0,f+30⟩,⟨10,0,0,0,f+0⟩])
def lI (f b:Int):List yV:=mD f b++[⟨1,7,0,0,1⟩,⟨6,0,-1,7,b+3⟩]++oZ b
def wI (x:Ins):Int:=if x.op=5 then 29 else if x.op=7 then 31 else if x.op=6 then 30 else if x.op=8 then 32 else if x.op=9 then 13 else uN (qV x.op 1 13)
theorem qS0 (b:Int):(oZ b).take 2=oZ b:=rfl
theorem qO0 (f b:Int):(cW f b).take 4=cW f b:=rfl
theorem qNg (f b:Int):(mD f b).take 5=mD f b:=rfl
attribute [local go_sem] qS0 qO0 qNg qLu qJi qJ6
def qA5 (x:yV) (pl:Int):Bool :=
 qV x.r 0 7&&qV x.b 0 7&&(qV x.a 0 7||((decide (x.op=5)||decide (x.op=6)||decide (x.op=7))&&decide (x.a=-1))) &&
 (if x.op=1 then qV x.n (-1000000000) 1000000000&&decide (x.a=0)&&decide (x.b=0)
  else if x.op=2∨x.op=3∨x.op=4 then decide (x.n=0)
  else if x.op=5 then qV x.n 0 23&&decide (x.b=0)
  else if x.op=6∨x.op=7 then qV x.n 0 23&&decide (x.r=0)
  else if x.op=8 then qV x.n 0 23&&decide (x.a=0)
  else if x.op=9 then decide (x.r=0)&&decide (x.b=0)&&decide (x.n=0)
  else if x.op=10 then decide (0≤x.n)&&decide (x.n<pl)&&decide (x.r=0)&&decide (x.a=0)&&decide (x.b=0)
  else if x.op=11 then decide (0≤x.n)&&decide (x.n<pl)&&decide (x.r=0)&&decide (x.b=0)
  else if x.op=12∨x.op=13 then decide (x.r=0)&&(decide (x.a=0)&&(decide (x.b=0)&&decide (x.n=0)))
  else false)
end Go.Sep
