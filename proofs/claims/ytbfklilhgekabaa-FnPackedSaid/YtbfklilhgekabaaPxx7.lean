/- Contracts of functions. -/
import Derived.Test.YtbfklilhgekabaaPxx1
open List renaming map_cons → qX7, mem_map → qYq
namespace Go.Sep
set_option maxHeartbeats 16000000
open Go.Proofs
set_option linter.unusedSimpArgs false
set_option linter.unusedVariables false
set_option maxRecDepth 100000
structure yQ where
 op:Int
 r:Int
 a:Int
 b:Int
 n:Int
 deriving DecidableEq,Inhabited
def qB1 (x:yQ):List AV:=[.int .i64 x.op,.int .i64 x.r,.int .i64 x.a,.int .i64 x.b,.int .i64 x.n]
def bW (l:List yQ):List (List AV):=l.map qB1
theorem qPa:bW []=[]:=rfl
theorem rL (l:List yQ):(bW l).length=l.length:=by simp [bW]
theorem qHn (l k:List yQ):bW l++bW k=bW (l++k):=by simp [bW]
theorem qCq (l:List yQ) (n:Nat):(bW l).drop n=bW (l.drop n):=by simp [bW]
theorem qCp (l:List yQ) (n:Nat):(bW l).take n=bW (l.take n):=by simp [bW]
theorem qP8 (l:List yQ) (i:Nat) (op_:Int) (r_:Int) (a_:Int) (b_:Int) (n_:Int):(bW l).set i [.int .i64 op_,.int .i64 r_,.int .i64 a_,.int .i64 b_,.int .i64 n_]=bW (l.set i ⟨op_,r_,a_,b_,n_⟩):=by simp [bW,qB1]
theorem iH (A:Nat→Prop) (l:List yQ):yM A (bW l)↔True:=by
 simp only [iff_true]
 induction l with
 | nil=>trivial
 | cons x l ih=>exact ⟨by simp [qB1,yX,bnd,dQ,yO,vT,jK,vI,vW,uH,jZ,bN,gF,uM,aW],ih⟩
theorem cD (l:List yQ):nbr (bW l)↔True:=by
 simp only [iff_true]
 induction l with
 | nil=>trivial
 | cons x l ih=>exact ⟨by simp [qB1,nbs,nb,vS,bG,vC,uQ,bA,uO,vQ,gV,dC,bP,hZ],ih⟩
theorem iG :∀(l:List yQ),bwR (bW l)=bW l
 | []=>rfl
 | x::l=>by
  have:=iG l
  simp only [bW,qX7,bwR] at this⊢
  rw [this]
  simp [qB1,bwL,bwC,uD,uV,jS,uF,uR,uZ,vG,gI,gY,uY,cU]
theorem qLt (l:List yQ):free (bW l)↔True:=by
 simp only [iff_true]
 intro r hr c hc
 simp only [bW,qYq] at hr
 obtain ⟨x,_,rfl⟩:=hr
 simp [qB1] at hc
 rcases hc with rfl | rfl | rfl | rfl | rfl<;>rfl
def codes (m:Mode) (l:List (List yQ)):List (List AV):=l.map fun b=>[.sl m 5 (bW b)]
theorem qQw (m:Mode):codes m []=[]:=rfl
theorem tC (m:Mode) (l:List (List yQ)):(codes m l).length=l.length:=by simp [codes]
theorem qIl (m:Mode) (l k:List (List yQ)):codes m l++codes m k=codes m (l++k):=by simp [codes]
theorem qE7 (m:Mode) (l:List (List yQ)) (n:Nat):(codes m l).drop n=codes m (l.drop n):=by simp [codes]
theorem qE6 (m:Mode) (l:List (List yQ)) (n:Nat):(codes m l).take n=codes m (l.take n):=by simp [codes]
theorem qQt (m:Mode) (l:List (List yQ)) (i:Nat) (b_:List yQ):(codes m l).set i [.sl m 5 (bW b_)]=codes m (l.set i b_):=by simp [codes]
theorem oN (A:Nat→Prop) (m:Mode) (l:List (List yQ)):yM A (codes m l)↔True:=by
 simp only [iff_true]
 induction l with
 | nil=>trivial
 | cons x l ih=>exact ⟨by simp [yX,bnd,dQ,yO,vT,jK,vI,vW,uH,jZ,bN,gF,uM,aW,iH],ih⟩
theorem cT (l:List (List yQ)):nbr (codes .own l)↔True:=by
 simp only [iff_true]
 induction l with
 | nil=>trivial
 | cons x l ih=>exact ⟨by simp [nbs,nb,vS,bG,vC,uQ,bA,uO,vQ,gV,dC,bP,hZ,cD],ih⟩
theorem nI (m:Mode) :∀(l:List (List yQ)),bwR (codes m l)=codes .bw l
 | []=>rfl
 | x::l=>by
  have:=nI m l
  simp only [codes,qX7,bwR] at this⊢
  rw [this]
  simp [bwL,bwC,uD,uV,jS,uF,uR,uZ,vG,gI,gY,uY,cU,iG]
theorem qN0 (l:List (List yQ)):free (codes .bw l)↔True:=by
 simp only [iff_true]
 intro r hr c hc
 simp only [codes,qYq] at hr
 obtain ⟨x,_,rfl⟩:=hr
 simp [] at hc
 rcases hc with rfl<;>rfl
structure wV where
 v:Int
 view:List Int
 deriving DecidableEq,Inhabited
def lT (m:Mode) (x:wV):List AV:=[.int .i64 x.v,.sl m 1 (yF x.view)]
def vP (m:Mode) (l:List wV):List (List AV):=l.map (lT m)
theorem qLn (m:Mode):vP m []=[]:=rfl
theorem oV (m:Mode) (l:List wV):(vP m l).length=l.length:=by simp [vP]
theorem qF0 (m:Mode) (l k:List wV):vP m l++vP m k=vP m (l++k):=by simp [vP]
theorem qAx (m:Mode) (l:List wV) (n:Nat):(vP m l).drop n=vP m (l.drop n):=by simp [vP]
theorem qAw (m:Mode) (l:List wV) (n:Nat):(vP m l).take n=vP m (l.take n):=by simp [vP]
theorem qLk (m:Mode) (l:List wV) (i:Nat) (v_:Int) (view_:List Int):(vP m l).set i [.int .i64 v_,.sl m 1 (yF view_)]=vP m (l.set i ⟨v_,view_⟩):=by simp [vP,lT]
theorem pF (A:Nat→Prop) (m:Mode) (l:List wV):yM A (vP m l)↔True:=by
 simp only [iff_true]
 induction l with
 | nil=>trivial
 | cons x l ih=>exact ⟨by simp [lT,yX,bnd,dQ,yO,vT,jK,vI,vW,uH,jZ,bN,gF,uM,aW,iH,oN],ih⟩
theorem eT (l:List wV):nbr (vP .own l)↔True:=by
 simp only [iff_true]
 induction l with
 | nil=>trivial
 | cons x l ih=>exact ⟨by simp [lT,nbs,nb,vS,bG,vC,uQ,bA,uO,vQ,gV,dC,bP,hZ,cD,cT],ih⟩
theorem nU (m:Mode) :∀(l:List wV),bwR (vP m l)=vP .bw l
 | []=>rfl
 | x::l=>by
  have:=nU m l
  simp only [vP,qX7,bwR] at this⊢
  rw [this]
  simp [lT,bwL,bwC,uD,uV,jS,uF,uR,uZ,vG,gI,gY,uY,cU,iG,nI]
theorem qJ4 (l:List wV):free (vP .bw l)↔True:=by
 simp only [iff_true]
 intro r hr c hc
 simp only [vP,qYq] at hr
 obtain ⟨x,_,rfl⟩:=hr
 simp [lT] at hc
 rcases hc with rfl | rfl<;>rfl
def dD (m:Mode) (l:List (List wV)):List (List AV):=l.map fun b=>[.sl m 2 (vP m b)]
theorem qTp (m:Mode):dD m []=[]:=rfl
theorem qBp (m:Mode) (l:List (List wV)):(dD m l).length=l.length:=by simp [dD]
theorem qL2 (m:Mode) (l k:List (List wV)):dD m l++dD m k=dD m (l++k):=by simp [dD]
theorem qGz (m:Mode) (l:List (List wV)) (n:Nat):(dD m l).drop n=dD m (l.drop n):=by simp [dD]
theorem qGy (m:Mode) (l:List (List wV)) (n:Nat):(dD m l).take n=dD m (l.take n):=by simp [dD]
theorem qTm (m:Mode) (l:List (List wV)) (i:Nat) (b_:List wV):(dD m l).set i [.sl m 2 (vP m b_)]=dD m (l.set i b_):=by simp [dD]
theorem qL1 (A:Nat→Prop) (m:Mode) (l:List (List wV)):yM A (dD m l)↔True:=by
 simp only [iff_true]
 induction l with
 | nil=>trivial
 | cons x l ih=>exact ⟨by simp [yX,bnd,dQ,yO,vT,jK,vI,vW,uH,jZ,bN,gF,uM,aW,iH,oN,pF],ih⟩
theorem tG (l:List (List wV)):nbr (dD .own l)↔True:=by
 simp only [iff_true]
 induction l with
 | nil=>trivial
 | cons x l ih=>exact ⟨by simp [nbs,nb,vS,bG,vC,uQ,bA,uO,vQ,gV,dC,bP,hZ,cD,cT,eT],ih⟩
theorem qIr (m:Mode) :∀(l:List (List wV)),bwR (dD m l)=dD .bw l
 | []=>rfl
 | x::l=>by
  have:=qIr m l
  simp only [dD,qX7,bwR] at this⊢
  rw [this]
  simp [bwL,bwC,uD,uV,jS,uF,uR,uZ,vG,gI,gY,uY,cU,iG,nI,nU]
theorem qQz (l:List (List wV)):free (dD .bw l)↔True:=by
 simp only [iff_true]
 intro r hr c hc
 simp only [dD,qYq] at hr
 obtain ⟨x,_,rfl⟩:=hr
 simp [] at hc
 rcases hc with rfl<;>rfl
structure vX where
 at_:Int
 regs:List Int
 view:List Int
 st:Int
 deriving DecidableEq,Inhabited
def qBk (m:Mode) (x:vX):List AV:=[.int .i64 x.at_,.sl m 1 (yF x.regs),.sl m 1 (yF x.view),.int .i64 x.st]
def cores (m:Mode) (l:List vX):List (List AV):=l.map (qBk m)
theorem qQq (m:Mode):cores m []=[]:=rfl
theorem sZ (m:Mode) (l:List vX):(cores m l).length=l.length:=by simp [cores]
theorem qIj (m:Mode) (l k:List vX):cores m l++cores m k=cores m (l++k):=by simp [cores]
theorem qE4 (m:Mode) (l:List vX) (n:Nat):(cores m l).drop n=cores m (l.drop n):=by simp [cores]
theorem qE3 (m:Mode) (l:List vX) (n:Nat):(cores m l).take n=cores m (l.take n):=by simp [cores]
theorem qQn (m:Mode) (l:List vX) (i:Nat) (at__:Int) (regs_:List Int) (view_:List Int) (st_:Int):(cores m l).set i [.int .i64 at__,.sl m 1 (yF regs_),.sl m 1 (yF view_),.int .i64 st_]=cores m (l.set i ⟨at__,regs_,view_,st_⟩):=by simp [cores,qBk]
theorem qQr (A:Nat→Prop) (m:Mode) (l:List vX):yM A (cores m l)↔True:=by
 simp only [iff_true]
 induction l with
 | nil=>trivial
 | cons x l ih=>exact ⟨by simp [qBk,yX,bnd,dQ,yO,vT,jK,vI,vW,uH,jZ,bN,gF,uM,aW,iH,oN,pF,qL1],ih⟩
theorem sY (l:List vX):nbr (cores .own l)↔True:=by
 simp only [iff_true]
 induction l with
 | nil=>trivial
 | cons x l ih=>exact ⟨by simp [qBk,nbs,nb,vS,bG,vC,uQ,bA,uO,vQ,gV,dC,bP,hZ,cD,cT,eT,tG],ih⟩
theorem qKu (m:Mode) :∀(l:List vX),bwR (cores m l)=cores .bw l
 | []=>rfl
 | x::l=>by
  have:=qKu m l
  simp only [cores,qX7,bwR] at this⊢
  rw [this]
  simp [qBk,bwL,bwC,uD,uV,jS,uF,uR,uZ,vG,gI,gY,uY,cU,iG,nI,nU,qIr]
theorem qMx (l:List vX):free (cores .bw l)↔True:=by
 simp only [iff_true]
 intro r hr c hc
 simp only [cores,qYq] at hr
 obtain ⟨x,_,rfl⟩:=hr
 simp [qBk] at hc
 rcases hc with rfl | rfl | rfl | rfl<;>rfl
structure qJ3 where
 who:Int
 late:Int
 deriving DecidableEq,Inhabited
def qV9 (x:qJ3):List AV:=[.int .i64 x.who,.int .i64 x.late]
structure qU2 where
 cells:List (List wV)
 deriving DecidableEq,Inhabited
def qOj (m:Mode) (x:qU2):List AV:=[.sl m 1 (dD m x.cells)]
structure qP where
 codes:List (List yQ)
 cores:List vX
 mem:qU2
 tr:List bB
 deriving DecidableEq,Inhabited
def qK4 (m:Mode) (x:qP):List AV:=[.sl m 1 (codes m x.codes),.sl m 4 (cores m x.cores),.sl m 1 (dD m x.mem.cells),.sl m 2 (yR x.tr)]
attribute [go_sem] rL qHn qCq qCp qP8 qB1 tC qIl qE7 qE6 qQt oV qF0 qAx qAw qLk lT qBp qL2 qGz qGy qTm sZ qIj qE4 qE3 qQn qBk qV9 qOj qK4
attribute [simp] qPa iG iH cD rL qCp qCq qLt qQw nI oN cT tC qE6 qE7 qN0 qLn nU pF eT oV qAw qAx qJ4 qTp qIr qL1 tG qBp qGy qGz qQz qQq qKu qQr sY sZ qE3 qE4 qMx qB1 lT qBk qV9 qOj qK4
attribute [local go_sem] qTc
def oU (b:Int):List yQ:=[⟨1,7,0,0,0⟩,⟨7,0,-1,7,b⟩]
def cM (f b:Int):List yQ:=[⟨1,7,0,0,1⟩,⟨8,6,0,7,b⟩,⟨11,0,6,0,f+4⟩,⟨10,0,0,0,f+0⟩]
def lY (f b:Int):List yQ:=[⟨5,4,-1,0,b+3⟩,⟨11,0,4,0,f+9⟩]++oU b++[⟨13,0,0,0,0⟩]
@[simp] theorem qK8 (b:Int):(oU b).length=2:=rfl
@[simp] theorem qI4 (f b:Int):(cM f b).length=4:=rfl
@[simp] theorem qHv (f b:Int):(lY f b).length=5:=rfl
def rS (f b c:Int) (x:Ins):List yQ :=
 lY f b++[⟨5,5,-1,0,b+2⟩,⟨1,7,0,0,c⟩,⟨4,6,5,7,0⟩,⟨11,0,6,0,f+(26+uE (decide (x.op=7)))⟩,⟨5,4,-1,0,b+1⟩,⟨2,4,4,5,0⟩,⟨4,6,4,7,0⟩,⟨11,0,6,0,f+18⟩,⟨10,0,0,0,f+19⟩,⟨3,4,4,7,0⟩,⟨6,0,4,x.a,b+4⟩,⟨1,7,0,0,1⟩,⟨2,5,5,7,0⟩,⟨6,0,-1,5,b+2⟩]++oU b ++
 (if x.op=7 then [⟨1,x.r,0,0,1⟩,⟨10,0,0,0,f+31⟩]++oU b++[⟨1,x.r,0,0,0⟩,⟨10,0,0,0,f+31⟩] else [⟨10,0,0,0,f+29⟩]++oU b++[⟨10,0,0,0,f+0⟩])
def rJ (f b c:Int) (x:Ins):List yQ :=
 [⟨5,5,-1,0,b+2⟩,⟨11,0,5,0,f+22⟩,⟨5,4,-1,0,b+1⟩,⟨5,x.r,4,0,b+4⟩,⟨1,7,0,0,1⟩,⟨2,4,4,7,0⟩,⟨3,5,5,7,0⟩,⟨1,7,0,0,c⟩,⟨4,6,4,7,0⟩,⟨11,0,6,0,f+15⟩,⟨10,0,0,0,f+16⟩,⟨1,4,0,0,0⟩,⟨6,0,-1,4,b+1⟩,⟨6,0,-1,5,b+2⟩]++oU b++[⟨1,x.b,0,0,1⟩,⟨10,0,0,0,f+(if x.op=8 then 32 else 30)⟩,⟨5,4,-1,0,b+3⟩]++oU b++[⟨11,0,4,0,f+29⟩,⟨1,x.r,0,0,0⟩] ++
 (if x.op=8 then [⟨1,x.b,0,0,2⟩,⟨10,0,0,0,f+32⟩,⟨1,x.r,0,0,0⟩,⟨1,x.b,0,0,0⟩,⟨10,0,0,0,f+32⟩] else [⟨1,x.b,0,0,0⟩,⟨10,0,0,0,f+30⟩,⟨10,0,0,0,f+0⟩])
def lB (f b:Int):List yQ:=lY f b++[⟨1,7,0,0,1⟩,⟨6,0,-1,7,b+3⟩]++oU b
def wA (x:Ins):Int:=if x.op=5 then 29 else if x.op=7 then 31 else if x.op=6 then 30 else if x.op=8 then 32 else if x.op=9 then 13 else uE (qS x.op 1 13)
theorem qQ7 (b:Int):(oU b).take 2=oU b:=rfl
theorem qMi (f b:Int):(cM f b).take 4=cM f b:=rfl
theorem qLw (f b:Int):(lY f b).take 5=lY f b:=rfl
attribute [local go_sem] qQ7 qMi qLw qK8 qI4 qHv
def tT (x:yQ) (pl:Int):Bool :=
 qS x.r 0 7&&qS x.b 0 7&&(qS x.a 0 7||((decide (x.op=5)||decide (x.op=6)||decide (x.op=7))&&decide (x.a=-1))) &&
 (if x.op=1 then qS x.n (-1000000000) 1000000000&&decide (x.a=0)&&decide (x.b=0)
  else if x.op=2∨x.op=3∨x.op=4 then decide (x.n=0)
  else if x.op=5 then qS x.n 0 23&&decide (x.b=0)
  else if x.op=6∨x.op=7 then qS x.n 0 23&&decide (x.r=0)
  else if x.op=8 then qS x.n 0 23&&decide (x.a=0)
  else if x.op=9 then decide (x.r=0)&&decide (x.b=0)&&decide (x.n=0)
  else if x.op=10 then decide (0≤x.n)&&decide (x.n<pl)&&decide (x.r=0)&&decide (x.a=0)&&decide (x.b=0)
  else if x.op=11 then decide (0≤x.n)&&decide (x.n<pl)&&decide (x.r=0)&&decide (x.b=0)
  else if x.op=12∨x.op=13 then decide (x.r=0)&&(decide (x.a=0)&&(decide (x.b=0)&&decide (x.n=0)))
  else false)
end Go.Sep
