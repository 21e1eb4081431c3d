/- Contracts of functions. -/
import Derived.Test.YtfecojefbnnknaaMxx1
open List renaming map_cons → wCp, mem_map → wE8
namespace Go.Sep
set_option maxHeartbeats 16000000
open Go.Proofs
set_option linter.unusedSimpArgs false
set_option linter.unusedVariables false
set_option maxRecDepth 100000
structure jB where
 op:Int
 r:Int
 a:Int
 b:Int
 n:Int
 deriving DecidableEq,Inhabited
def qD7 (x:jB):List AV:=[.int .i64 x.op,.int .i64 x.r,.int .i64 x.a,.int .i64 x.b,.int .i64 x.n]
def gQ (l:List jB):List (List AV):=l.map qD7
theorem qTd:gQ []=[]:=rfl
theorem qA3 (l:List jB):(gQ l).length=l.length:=by simp [gQ]
theorem qKy (l k:List jB):gQ l++gQ k=gQ (l++k):=by simp [gQ]
theorem qF9 (l:List jB) (n:Nat):(gQ l).drop n=gQ (l.drop n):=by simp [gQ]
theorem qF8 (l:List jB) (n:Nat):(gQ l).take n=gQ (l.take n):=by simp [gQ]
theorem qTb (l:List jB) (i:Nat) (op_:Int) (r_:Int) (a_:Int) (b_:Int) (n_:Int):(gQ l).set i [.int .i64 op_,.int .i64 r_,.int .i64 a_,.int .i64 b_,.int .i64 n_]=gQ (l.set i ⟨op_,r_,a_,b_,n_⟩):=by simp [gQ,qD7]
theorem lS (A:Nat→Prop) (l:List jB):yY A (gQ l)↔True:=by
 simp only [iff_true]
 induction l with
 | nil=>trivial
 | cons x l ih=>exact ⟨by simp [qD7,jK,bnd,zX,yZ,uB,jR,vL,uG,uR,vI,gE,gZ,bA,cG],ih⟩
theorem hY (l:List jB):nbr (gQ l)↔True:=by
 simp only [iff_true]
 induction l with
 | nil=>trivial
 | cons x l ih=>exact ⟨by simp [qD7,nbs,nb,uA,bX,vN,bD,bP,bC,vY,dV,zG,gH,lN],ih⟩
theorem lR :∀(l:List jB),bwR (gQ l)=gQ l
 | []=>rfl
 | x::l=>by
  have:=lR l
  simp only [gQ,wCp,bwR] at this⊢
  rw [this]
  simp [qD7,bwL,bwC,uN,bJ,jZ,uP,bE,bN,vR,dC,dY,bL,iR]
theorem qPj (l:List jB):free (gQ l)↔True:=by
 simp only [iff_true]
 intro r hr c hc
 simp only [gQ,wE8] at hr
 obtain ⟨x,_,rfl⟩:=hr
 simp [qD7] at hc
 rcases hc with rfl | rfl | rfl | rfl | rfl<;>rfl
def codes (m:Mode) (l:List (List jB)):List (List AV):=l.map fun b=>[.sl m 5 (gQ b)]
theorem qV9 (m:Mode):codes m []=[]:=rfl
theorem qBd (m:Mode) (l:List (List jB)):(codes m l).length=l.length:=by simp [codes]
theorem qLy (m:Mode) (l k:List (List jB)):codes m l++codes m k=codes m (l++k):=by simp [codes]
theorem qH4 (m:Mode) (l:List (List jB)) (n:Nat):(codes m l).drop n=codes m (l.drop n):=by simp [codes]
theorem qH3 (m:Mode) (l:List (List jB)) (n:Nat):(codes m l).take n=codes m (l.take n):=by simp [codes]
theorem qV6 (m:Mode) (l:List (List jB)) (i:Nat) (b_:List jB):(codes m l).set i [.sl m 5 (gQ b_)]=codes m (l.set i b_):=by simp [codes]
theorem rY (A:Nat→Prop) (m:Mode) (l:List (List jB)):yY A (codes m l)↔True:=by
 simp only [iff_true]
 induction l with
 | nil=>trivial
 | cons x l ih=>exact ⟨by simp [jK,bnd,zX,yZ,uB,jR,vL,uG,uR,vI,gE,gZ,bA,cG,lS],ih⟩
theorem iQ (l:List (List jB)):nbr (codes .own l)↔True:=by
 simp only [iff_true]
 induction l with
 | nil=>trivial
 | cons x l ih=>exact ⟨by simp [nbs,nb,uA,bX,vN,bD,bP,bC,vY,dV,zG,gH,lN,hY],ih⟩
theorem pW (m:Mode) :∀(l:List (List jB)),bwR (codes m l)=codes .bw l
 | []=>rfl
 | x::l=>by
  have:=pW m l
  simp only [codes,wCp,bwR] at this⊢
  rw [this]
  simp [bwL,bwC,uN,bJ,jZ,uP,bE,bN,vR,dC,dY,bL,iR,lR]
theorem qQu (l:List (List jB)):free (codes .bw l)↔True:=by
 simp only [iff_true]
 intro r hr c hc
 simp only [codes,wE8] at hr
 obtain ⟨x,_,rfl⟩:=hr
 simp [] at hc
 rcases hc with rfl<;>rfl
structure yA where
 v:Int
 view:List Int
 deriving DecidableEq,Inhabited
def oF (m:Mode) (x:yA):List AV:=[.int .i64 x.v,.sl m 1 (wR x.view)]
def vX (m:Mode) (l:List yA):List (List AV):=l.map (oF m)
theorem qPd (m:Mode):vX m []=[]:=rfl
theorem sH (m:Mode) (l:List yA):(vX m l).length=l.length:=by simp [vX]
theorem qHz (m:Mode) (l k:List yA):vX m l++vX m k=vX m (l++k):=by simp [vX]
theorem qD3 (m:Mode) (l:List yA) (n:Nat):(vX m l).drop n=vX m (l.drop n):=by simp [vX]
theorem qD2 (m:Mode) (l:List yA) (n:Nat):(vX m l).take n=vX m (l.take n):=by simp [vX]
theorem qPa (m:Mode) (l:List yA) (i:Nat) (v_:Int) (view_:List Int):(vX m l).set i [.int .i64 v_,.sl m 1 (wR view_)]=vX m (l.set i ⟨v_,view_⟩):=by simp [vX,oF]
theorem sQ (A:Nat→Prop) (m:Mode) (l:List yA):yY A (vX m l)↔True:=by
 simp only [iff_true]
 induction l with
 | nil=>trivial
 | cons x l ih=>exact ⟨by simp [oF,jK,bnd,zX,yZ,uB,jR,vL,uG,uR,vI,gE,gZ,bA,cG,lS,rY],ih⟩
theorem fT (l:List yA):nbr (vX .own l)↔True:=by
 simp only [iff_true]
 induction l with
 | nil=>trivial
 | cons x l ih=>exact ⟨by simp [oF,nbs,nb,uA,bX,vN,bD,bP,bC,vY,dV,zG,gH,lN,hY,iQ],ih⟩
theorem rG (m:Mode) :∀(l:List yA),bwR (vX m l)=vX .bw l
 | []=>rfl
 | x::l=>by
  have:=rG m l
  simp only [vX,wCp,bwR] at this⊢
  rw [this]
  simp [oF,bwL,bwC,uN,bJ,jZ,uP,bE,bN,vR,dC,dY,bL,iR,lR,pW]
theorem qMi (l:List yA):free (vX .bw l)↔True:=by
 simp only [iff_true]
 intro r hr c hc
 simp only [vX,wE8] at hr
 obtain ⟨x,_,rfl⟩:=hr
 simp [oF] at hc
 rcases hc with rfl | rfl<;>rfl
def zH (m:Mode) (l:List (List yA)):List (List AV):=l.map fun b=>[.sl m 2 (vX m b)]
theorem qYl (m:Mode):zH m []=[]:=rfl
theorem qDz (m:Mode) (l:List (List yA)):(zH m l).length=l.length:=by simp [zH]
theorem qOt (m:Mode) (l k:List (List yA)):zH m l++zH m k=zH m (l++k):=by simp [zH]
theorem qKa (m:Mode) (l:List (List yA)) (n:Nat):(zH m l).drop n=zH m (l.drop n):=by simp [zH]
theorem qK9 (m:Mode) (l:List (List yA)) (n:Nat):(zH m l).take n=zH m (l.take n):=by simp [zH]
theorem qYi (m:Mode) (l:List (List yA)) (i:Nat) (b_:List yA):(zH m l).set i [.sl m 2 (vX m b_)]=zH m (l.set i b_):=by simp [zH]
theorem qOs (A:Nat→Prop) (m:Mode) (l:List (List yA)):yY A (zH m l)↔True:=by
 simp only [iff_true]
 induction l with
 | nil=>trivial
 | cons x l ih=>exact ⟨by simp [jK,bnd,zX,yZ,uB,jR,vL,uG,uR,vI,gE,gZ,bA,cG,lS,rY,sQ],ih⟩
theorem qBh (l:List (List yA)):nbr (zH .own l)↔True:=by
 simp only [iff_true]
 induction l with
 | nil=>trivial
 | cons x l ih=>exact ⟨by simp [nbs,nb,uA,bX,vN,bD,bP,bC,vY,dV,zG,gH,lN,hY,iQ,fT],ih⟩
theorem qM5 (m:Mode) :∀(l:List (List yA)),bwR (zH m l)=zH .bw l
 | []=>rfl
 | x::l=>by
  have:=qM5 m l
  simp only [zH,wCp,bwR] at this⊢
  rw [this]
  simp [bwL,bwC,uN,bJ,jZ,uP,bE,bN,vR,dC,dY,bL,iR,lR,pW,rG]
theorem qVd (l:List (List yA)):free (zH .bw l)↔True:=by
 simp only [iff_true]
 intro r hr c hc
 simp only [zH,wE8] at hr
 obtain ⟨x,_,rfl⟩:=hr
 simp [] at hc
 rcases hc with rfl<;>rfl
structure uH where
 at_:Int
 regs:List Int
 view:List Int
 st:Int
 deriving DecidableEq,Inhabited
def qDt (m:Mode) (x:uH):List AV:=[.int .i64 x.at_,.sl m 1 (wR x.regs),.sl m 1 (wR x.view),.int .i64 x.st]
def cores (m:Mode) (l:List uH):List (List AV):=l.map (qDt m)
theorem qV3 (m:Mode):cores m []=[]:=rfl
theorem qBc (m:Mode) (l:List uH):(cores m l).length=l.length:=by simp [cores]
theorem qLw (m:Mode) (l k:List uH):cores m l++cores m k=cores m (l++k):=by simp [cores]
theorem qH1 (m:Mode) (l:List uH) (n:Nat):(cores m l).drop n=cores m (l.drop n):=by simp [cores]
theorem qH0 (m:Mode) (l:List uH) (n:Nat):(cores m l).take n=cores m (l.take n):=by simp [cores]
theorem qV0 (m:Mode) (l:List uH) (i:Nat) (at__:Int) (regs_:List Int) (view_:List Int) (st_:Int):(cores m l).set i [.int .i64 at__,.sl m 1 (wR regs_),.sl m 1 (wR view_),.int .i64 st_]=cores m (l.set i ⟨at__,regs_,view_,st_⟩):=by simp [cores,qDt]
theorem qV4 (A:Nat→Prop) (m:Mode) (l:List uH):yY A (cores m l)↔True:=by
 simp only [iff_true]
 induction l with
 | nil=>trivial
 | cons x l ih=>exact ⟨by simp [qDt,jK,bnd,zX,yZ,uB,jR,vL,uG,uR,vI,gE,gZ,bA,cG,lS,rY,sQ,qOs],ih⟩
theorem qBb (l:List uH):nbr (cores .own l)↔True:=by
 simp only [iff_true]
 induction l with
 | nil=>trivial
 | cons x l ih=>exact ⟨by simp [qDt,nbs,nb,uA,bX,vN,bD,bP,bC,vY,dV,zG,gH,lN,hY,iQ,fT,qBh],ih⟩
theorem qOk (m:Mode) :∀(l:List uH),bwR (cores m l)=cores .bw l
 | []=>rfl
 | x::l=>by
  have:=qOk m l
  simp only [cores,wCp,bwR] at this⊢
  rw [this]
  simp [qDt,bwL,bwC,uN,bJ,jZ,uP,bE,bN,vR,dC,dY,bL,iR,lR,pW,rG,qM5]
theorem qQr (l:List uH):free (cores .bw l)↔True:=by
 simp only [iff_true]
 intro r hr c hc
 simp only [cores,wE8] at hr
 obtain ⟨x,_,rfl⟩:=hr
 simp [qDt] at hc
 rcases hc with rfl | rfl | rfl | rfl<;>rfl
structure qEh where
 who:Int
 late:Int
 deriving DecidableEq,Inhabited
def wAo (x:qEh):List AV:=[.int .i64 x.who,.int .i64 x.late]
structure qYz where
 cells:List (List yA)
 deriving DecidableEq,Inhabited
def qSf (m:Mode) (x:qYz):List AV:=[.sl m 1 (zH m x.cells)]
structure qQ where
 codes:List (List jB)
 cores:List uH
 mem:qYz
 tr:List bM
 deriving DecidableEq,Inhabited
def qNq (m:Mode) (x:qQ):List AV:=[.sl m 1 (codes m x.codes),.sl m 4 (cores m x.cores),.sl m 1 (zH m x.mem.cells),.sl m 2 (jC x.tr)]
attribute [go_sem] qA3 qKy qF9 qF8 qTb qD7 qBd qLy qH4 qH3 qV6 sH qHz qD3 qD2 qPa oF qDz qOt qKa qK9 qYi qBc qLw qH1 qH0 qV0 qDt wAo qSf qNq
attribute [simp] qTd lR lS hY qA3 qF8 qF9 qPj qV9 pW rY iQ qBd qH3 qH4 qQu qPd rG sQ fT sH qD2 qD3 qMi qYl qM5 qOs qBh qDz qK9 qKa qVd qV3 qOk qV4 qBb qBc qH0 qH1 qQr qD7 oF qDt wAo qSf qNq
attribute [local go_sem] qY4
def sF (b:Int):List jB:=[⟨1,7,0,0,0⟩,⟨7,0,-1,7,b⟩]
def iG (f b:Int):List jB:=[⟨1,7,0,0,1⟩,⟨8,6,0,7,b⟩,⟨11,0,6,0,f+4⟩,⟨10,0,0,0,f+0⟩]
def oL (f b:Int):List jB:=[⟨5,4,-1,0,b+3⟩,⟨11,0,4,0,f+9⟩]++sF b++[⟨13,0,0,0,0⟩]
@[simp] theorem qNv (b:Int):(sF b).length=2:=rfl
@[simp] theorem qLg (f b:Int):(iG f b).length=4:=rfl
@[simp] theorem qL6 (f b:Int):(oL f b).length=5:=rfl
def qAa (f b c:Int) (x:Ins):List jB :=
 oL f b++[⟨5,5,-1,0,b+2⟩,⟨1,7,0,0,c⟩,⟨4,6,5,7,0⟩,⟨11,0,6,0,f+(26+uO (decide (x.op=7)))⟩,⟨5,4,-1,0,b+1⟩,⟨2,4,4,5,0⟩,⟨4,6,4,7,0⟩,⟨11,0,6,0,f+18⟩,⟨10,0,0,0,f+19⟩,⟨3,4,4,7,0⟩,⟨6,0,4,x.a,b+4⟩,⟨1,7,0,0,1⟩,⟨2,5,5,7,0⟩,⟨6,0,-1,5,b+2⟩]++sF b ++
 (if x.op=7 then [⟨1,x.r,0,0,1⟩,⟨10,0,0,0,f+31⟩]++sF b++[⟨1,x.r,0,0,0⟩,⟨10,0,0,0,f+31⟩] else [⟨10,0,0,0,f+29⟩]++sF b++[⟨10,0,0,0,f+0⟩])
def qA0 (f b c:Int) (x:Ins):List jB :=
 [⟨5,5,-1,0,b+2⟩,⟨11,0,5,0,f+22⟩,⟨5,4,-1,0,b+1⟩,⟨5,x.r,4,0,b+4⟩,⟨1,7,0,0,1⟩,⟨2,4,4,7,0⟩,⟨3,5,5,7,0⟩,⟨1,7,0,0,c⟩,⟨4,6,4,7,0⟩,⟨11,0,6,0,f+15⟩,⟨10,0,0,0,f+16⟩,⟨1,4,0,0,0⟩,⟨6,0,-1,4,b+1⟩,⟨6,0,-1,5,b+2⟩]++sF b++[⟨1,x.b,0,0,1⟩,⟨10,0,0,0,f+(if x.op=8 then 32 else 30)⟩,⟨5,4,-1,0,b+3⟩]++sF b++[⟨11,0,4,0,f+29⟩,⟨1,x.r,0,0,0⟩] ++
 (if x.op=8 then [⟨1,x.b,0,0,2⟩,⟨10,0,0,0,f+32⟩,⟨1,x.r,0,0,0⟩,⟨1,x.b,0,0,0⟩,⟨10,0,0,0,f+32⟩] else [⟨1,x.b,0,0,0⟩,⟨10,0,0,0,f+30⟩,⟨10,0,0,0,f+0⟩])
def nM (f b:Int):List jB:=oL f b++[⟨1,7,0,0,1⟩,⟨6,0,-1,7,b+3⟩]++sF b
def wN (x:Ins):Int:=if x.op=5 then 29 else if x.op=7 then 31 else if x.op=6 then 30 else if x.op=8 then 32 else if x.op=9 then 13 else uO (qR x.op 1 13)
theorem qUj (b:Int):(sF b).take 2=sF b:=rfl
theorem qQa (f b:Int):(iG f b).take 4=iG f b:=rfl
theorem qPm (f b:Int):(oL f b).take 5=oL f b:=rfl
attribute [local go_sem] qUj qQa qPm qNv qLg qL6
def qBu (x:jB) (pl:Int):Bool :=
 qR x.r 0 7&&qR x.b 0 7&&(qR x.a 0 7||((decide (x.op=5)||decide (x.op=6)||decide (x.op=7))&&decide (x.a=-1))) &&
 (if x.op=1 then qR x.n (-1000000000) 1000000000&&decide (x.a=0)&&decide (x.b=0)
  else if x.op=2∨x.op=3∨x.op=4 then decide (x.n=0)
  else if x.op=5 then qR x.n 0 23&&decide (x.b=0)
  else if x.op=6∨x.op=7 then qR x.n 0 23&&decide (x.r=0)
  else if x.op=8 then qR x.n 0 23&&decide (x.a=0)
  else if x.op=9 then decide (x.r=0)&&decide (x.b=0)&&decide (x.n=0)
  else if x.op=10 then decide (0≤x.n)&&decide (x.n<pl)&&decide (x.r=0)&&decide (x.a=0)&&decide (x.b=0)
  else if x.op=11 then decide (0≤x.n)&&decide (x.n<pl)&&decide (x.r=0)&&decide (x.b=0)
  else if x.op=12∨x.op=13 then decide (x.r=0)&&(decide (x.a=0)&&(decide (x.b=0)&&decide (x.n=0)))
  else false)
end Go.Sep
