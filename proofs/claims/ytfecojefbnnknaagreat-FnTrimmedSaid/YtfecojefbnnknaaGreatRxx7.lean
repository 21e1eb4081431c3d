/- Contracts of functions. -/
import Derived.Test.YtfecojefbnnknaaGreatRxx1
open List renaming map_cons → wBm, mem_map → wD5
namespace Go.Sep
set_option maxHeartbeats 16000000
open Go.Proofs
set_option linter.unusedSimpArgs false
set_option linter.unusedVariables false
set_option maxRecDepth 100000
structure jB where
 op:Int
 r:Int
 a:Int
 b:Int
 n:Int
 deriving DecidableEq,Inhabited
def qCo (x:jB):List AV:=[.int .i64 x.op,.int .i64 x.r,.int .i64 x.a,.int .i64 x.b,.int .i64 x.n]
def gL (l:List jB):List (List AV):=l.map qCo
theorem qT1:gL []=[]:=rfl
theorem tU (l:List jB):(gL l).length=l.length:=by simp [gL]
theorem qKk (l k:List jB):gL l++gL k=gL (l++k):=by simp [gL]
theorem qEw (l:List jB) (n:Nat):(gL l).drop n=gL (l.drop n):=by simp [gL]
theorem qEv (l:List jB) (n:Nat):(gL l).take n=gL (l.take n):=by simp [gL]
theorem qSz (l:List jB) (i:Nat) (op_:Int) (r_:Int) (a_:Int) (b_:Int) (n_:Int):(gL l).set i [.int .i64 op_,.int .i64 r_,.int .i64 a_,.int .i64 b_,.int .i64 n_]=gL (l.set i ⟨op_,r_,a_,b_,n_⟩):=by simp [gL,qCo]
theorem kS (A:Nat→Prop) (l:List jB):yW A (gL l)↔True:=by
 simp only [iff_true]
 induction l with
 | nil=>trivial
 | cons x l ih=>exact ⟨by simp [qCo,jK,bnd,zM,yZ,uG,jU,vM,uK,uU,vK,gC,gW,bA,eS],ih⟩
theorem fG (l:List jB):nbr (gL l)↔True:=by
 simp only [iff_true]
 induction l with
 | nil=>trivial
 | cons x l ih=>exact ⟨by simp [qCo,nbs,nb,uF,bW,vO,bD,bO,bB,uB,dT,zB,gG,kM],ih⟩
theorem kQ :∀(l:List jB),bwR (gL l)=gL l
 | []=>rfl
 | x::l=>by
  have:=kQ l
  simp only [gL,wBm,bwR] at this⊢
  rw [this]
  simp [qCo,bwL,bwC,uQ,bJ,vE,uS,bE,bN,vT,gZ,dX,bL,hB]
theorem qPg (l:List jB):free (gL l)↔True:=by
 simp only [iff_true]
 intro r hr c hc
 simp only [gL,wD5] at hr
 obtain ⟨x,_,rfl⟩:=hr
 simp [qCo] at hc
 rcases hc with rfl | rfl | rfl | rfl | rfl<;>rfl
def codes (m:Mode) (l:List (List jB)):List (List AV):=l.map fun b=>[.sl m 5 (gL b)]
theorem qUk (m:Mode):codes m []=[]:=rfl
theorem qAx (m:Mode) (l:List (List jB)):(codes m l).length=l.length:=by simp [codes]
theorem qLm (m:Mode) (l k:List (List jB)):codes m l++codes m k=codes m (l++k):=by simp [codes]
theorem qGc (m:Mode) (l:List (List jB)) (n:Nat):(codes m l).drop n=codes m (l.drop n):=by simp [codes]
theorem qGb (m:Mode) (l:List (List jB)) (n:Nat):(codes m l).take n=codes m (l.take n):=by simp [codes]
theorem qUh (m:Mode) (l:List (List jB)) (i:Nat) (b_:List jB):(codes m l).set i [.sl m 5 (gL b_)]=codes m (l.set i b_):=by simp [codes]
theorem rH (A:Nat→Prop) (m:Mode) (l:List (List jB)):yW A (codes m l)↔True:=by
 simp only [iff_true]
 induction l with
 | nil=>trivial
 | cons x l ih=>exact ⟨by simp [jK,bnd,zM,yZ,uG,jU,vM,uK,uU,vK,gC,gW,bA,eS,kS],ih⟩
theorem fY (l:List (List jB)):nbr (codes .own l)↔True:=by
 simp only [iff_true]
 induction l with
 | nil=>trivial
 | cons x l ih=>exact ⟨by simp [nbs,nb,uF,bW,vO,bD,bO,bB,uB,dT,zB,gG,kM,fG],ih⟩
theorem pE (m:Mode) :∀(l:List (List jB)),bwR (codes m l)=codes .bw l
 | []=>rfl
 | x::l=>by
  have:=pE m l
  simp only [codes,wBm,bwR] at this⊢
  rw [this]
  simp [bwL,bwC,uQ,bJ,vE,uS,bE,bN,vT,gZ,dX,bL,hB,kQ]
theorem qQo (l:List (List jB)):free (codes .bw l)↔True:=by
 simp only [iff_true]
 intro r hr c hc
 simp only [codes,wD5] at hr
 obtain ⟨x,_,rfl⟩:=hr
 simp [] at hc
 rcases hc with rfl<;>rfl
structure wZ where
 v:Int
 view:List Int
 deriving DecidableEq,Inhabited
def nM (m:Mode) (x:wZ):List AV:=[.int .i64 x.v,.sl m 1 (wE x.view)]
def uA (m:Mode) (l:List wZ):List (List AV):=l.map (nM m)
theorem qPa (m:Mode):uA m []=[]:=rfl
theorem rR (m:Mode) (l:List wZ):(uA m l).length=l.length:=by simp [uA]
theorem qHc (m:Mode) (l k:List wZ):uA m l++uA m k=uA m (l++k):=by simp [uA]
theorem qCl (m:Mode) (l:List wZ) (n:Nat):(uA m l).drop n=uA m (l.drop n):=by simp [uA]
theorem qCk (m:Mode) (l:List wZ) (n:Nat):(uA m l).take n=uA m (l.take n):=by simp [uA]
theorem qP7 (m:Mode) (l:List wZ) (i:Nat) (v_:Int) (view_:List Int):(uA m l).set i [.int .i64 v_,.sl m 1 (wE view_)]=uA m (l.set i ⟨v_,view_⟩):=by simp [uA,nM]
theorem sG (A:Nat→Prop) (m:Mode) (l:List wZ):yW A (uA m l)↔True:=by
 simp only [iff_true]
 induction l with
 | nil=>trivial
 | cons x l ih=>exact ⟨by simp [nM,jK,bnd,zM,yZ,uG,jU,vM,uK,uU,vK,gC,gW,bA,eS,kS,rH],ih⟩
theorem cW (l:List wZ):nbr (uA .own l)↔True:=by
 simp only [iff_true]
 induction l with
 | nil=>trivial
 | cons x l ih=>exact ⟨by simp [nM,nbs,nb,uF,bW,vO,bD,bO,bB,uB,dT,zB,gG,kM,fG,fY],ih⟩
theorem pN (m:Mode) :∀(l:List wZ),bwR (uA m l)=uA .bw l
 | []=>rfl
 | x::l=>by
  have:=pN m l
  simp only [uA,wBm,bwR] at this⊢
  rw [this]
  simp [nM,bwL,bwC,uQ,bJ,vE,uS,bE,bN,vT,gZ,dX,bL,hB,kQ,pE]
theorem qM4 (l:List wZ):free (uA .bw l)↔True:=by
 simp only [iff_true]
 intro r hr c hc
 simp only [uA,wD5] at hr
 obtain ⟨x,_,rfl⟩:=hr
 simp [nM] at hc
 rcases hc with rfl | rfl<;>rfl
def zC (m:Mode) (l:List (List wZ)):List (List AV):=l.map fun b=>[.sl m 2 (uA m b)]
theorem qXh (m:Mode):zC m []=[]:=rfl
theorem qDd (m:Mode) (l:List (List wZ)):(zC m l).length=l.length:=by simp [zC]
theorem qOm (m:Mode) (l k:List (List wZ)):zC m l++zC m k=zC m (l++k):=by simp [zC]
theorem qJs (m:Mode) (l:List (List wZ)) (n:Nat):(zC m l).drop n=zC m (l.drop n):=by simp [zC]
theorem qJr (m:Mode) (l:List (List wZ)) (n:Nat):(zC m l).take n=zC m (l.take n):=by simp [zC]
theorem qXe (m:Mode) (l:List (List wZ)) (i:Nat) (b_:List wZ):(zC m l).set i [.sl m 2 (uA m b_)]=zC m (l.set i b_):=by simp [zC]
theorem qOl (A:Nat→Prop) (m:Mode) (l:List (List wZ)):yW A (zC m l)↔True:=by
 simp only [iff_true]
 induction l with
 | nil=>trivial
 | cons x l ih=>exact ⟨by simp [jK,bnd,zM,yZ,uG,jU,vM,uK,uU,vK,gC,gW,bA,eS,kS,rH,sG],ih⟩
theorem qB0 (l:List (List wZ)):nbr (zC .own l)↔True:=by
 simp only [iff_true]
 induction l with
 | nil=>trivial
 | cons x l ih=>exact ⟨by simp [nbs,nb,uF,bW,vO,bD,bO,bB,uB,dT,zB,gG,kM,fG,fY,cW],ih⟩
theorem qLt (m:Mode) :∀(l:List (List wZ)),bwR (zC m l)=zC .bw l
 | []=>rfl
 | x::l=>by
  have:=qLt m l
  simp only [zC,wBm,bwR] at this⊢
  rw [this]
  simp [bwL,bwC,uQ,bJ,vE,uS,bE,bN,vT,gZ,dX,bL,hB,kQ,pE,pN]
theorem qUp (l:List (List wZ)):free (zC .bw l)↔True:=by
 simp only [iff_true]
 intro r hr c hc
 simp only [zC,wD5] at hr
 obtain ⟨x,_,rfl⟩:=hr
 simp [] at hc
 rcases hc with rfl<;>rfl
structure uL where
 at_:Int
 regs:List Int
 view:List Int
 st:Int
 deriving DecidableEq,Inhabited
def qD6 (m:Mode) (x:uL):List AV:=[.int .i64 x.at_,.sl m 1 (wE x.regs),.sl m 1 (wE x.view),.int .i64 x.st]
def cores (m:Mode) (l:List uL):List (List AV):=l.map (qD6 m)
theorem qUe (m:Mode):cores m []=[]:=rfl
theorem qAw (m:Mode) (l:List uL):(cores m l).length=l.length:=by simp [cores]
theorem qLk (m:Mode) (l k:List uL):cores m l++cores m k=cores m (l++k):=by simp [cores]
theorem qG9 (m:Mode) (l:List uL) (n:Nat):(cores m l).drop n=cores m (l.drop n):=by simp [cores]
theorem qG8 (m:Mode) (l:List uL) (n:Nat):(cores m l).take n=cores m (l.take n):=by simp [cores]
theorem qUb (m:Mode) (l:List uL) (i:Nat) (at__:Int) (regs_:List Int) (view_:List Int) (st_:Int):(cores m l).set i [.int .i64 at__,.sl m 1 (wE regs_),.sl m 1 (wE view_),.int .i64 st_]=cores m (l.set i ⟨at__,regs_,view_,st_⟩):=by simp [cores,qD6]
theorem qUf (A:Nat→Prop) (m:Mode) (l:List uL):yW A (cores m l)↔True:=by
 simp only [iff_true]
 induction l with
 | nil=>trivial
 | cons x l ih=>exact ⟨by simp [qD6,jK,bnd,zM,yZ,uG,jU,vM,uK,uU,vK,gC,gW,bA,eS,kS,rH,sG,qOl],ih⟩
theorem qAv (l:List uL):nbr (cores .own l)↔True:=by
 simp only [iff_true]
 induction l with
 | nil=>trivial
 | cons x l ih=>exact ⟨by simp [qD6,nbs,nb,uF,bW,vO,bD,bO,bB,uB,dT,zB,gG,kM,fG,fY,cW,qB0],ih⟩
theorem qOd (m:Mode) :∀(l:List uL),bwR (cores m l)=cores .bw l
 | []=>rfl
 | x::l=>by
  have:=qOd m l
  simp only [cores,wBm,bwR] at this⊢
  rw [this]
  simp [qD6,bwL,bwC,uQ,bJ,vE,uS,bE,bN,vT,gZ,dX,bL,hB,kQ,pE,pN,qLt]
theorem qQl (l:List uL):free (cores .bw l)↔True:=by
 simp only [iff_true]
 intro r hr c hc
 simp only [cores,wD5] at hr
 obtain ⟨x,_,rfl⟩:=hr
 simp [qD6] at hc
 rcases hc with rfl | rfl | rfl | rfl<;>rfl
structure qDz where
 who:Int
 late:Int
 deriving DecidableEq,Inhabited
def qZj (x:qDz):List AV:=[.int .i64 x.who,.int .i64 x.late]
structure qXu where
 cells:List (List wZ)
 deriving DecidableEq,Inhabited
def qS3 (m:Mode) (x:qXu):List AV:=[.sl m 1 (zC m x.cells)]
structure qT where
 codes:List (List jB)
 cores:List uL
 mem:qXu
 tr:List bP
 deriving DecidableEq,Inhabited
def qNi (m:Mode) (x:qT):List AV:=[.sl m 1 (codes m x.codes),.sl m 4 (cores m x.cores),.sl m 1 (zC m x.mem.cells),.sl m 2 (yY x.tr)]
attribute [go_sem] tU qKk qEw qEv qSz qCo qAx qLm qGc qGb qUh rR qHc qCl qCk qP7 nM qDd qOm qJs qJr qXe qAw qLk qG9 qG8 qUb qD6 qZj qS3 qNi
attribute [simp] qT1 kQ kS fG tU qEv qEw qPg qUk pE rH fY qAx qGb qGc qQo qPa pN sG cW rR qCk qCl qM4 qXh qLt qOl qB0 qDd qJr qJs qUp qUe qOd qUf qAv qAw qG8 qG9 qQl qCo nM qD6 qZj qS3 qNi
attribute [local go_sem] qWz
def rQ (b:Int):List jB:=[⟨1,7,0,0,0⟩,⟨7,0,-1,7,b⟩]
def fP (f b:Int):List jB:=[⟨1,7,0,0,1⟩,⟨8,6,0,7,b⟩,⟨11,0,6,0,f+4⟩,⟨10,0,0,0,f+0⟩]
def nS (f b:Int):List jB:=[⟨5,4,-1,0,b+3⟩,⟨11,0,4,0,f+9⟩]++rQ b++[⟨13,0,0,0,0⟩]
@[simp] theorem qNm (b:Int):(rQ b).length=2:=rfl
@[simp] theorem qL6 (f b:Int):(fP f b).length=4:=rfl
@[simp] theorem qKu (f b:Int):(nS f b).length=5:=rfl
def qA1 (f b c:Int) (x:Ins):List jB :=
 nS f b++[⟨5,5,-1,0,b+2⟩,⟨1,7,0,0,c⟩,⟨4,6,5,7,0⟩,⟨11,0,6,0,f+(26+vV (decide (x.op=7)))⟩,⟨5,4,-1,0,b+1⟩,⟨2,4,4,5,0⟩,⟨4,6,4,7,0⟩,⟨11,0,6,0,f+18⟩,⟨10,0,0,0,f+19⟩,⟨3,4,4,7,0⟩,⟨6,0,4,x.a,b+4⟩,⟨1,7,0,0,1⟩,⟨2,5,5,7,0⟩,⟨6,0,-1,5,b+2⟩]++rQ b ++
 (if x.op=7 then [⟨1,x.r,0,0,1⟩,⟨10,0,0,0,f+31⟩]++rQ b++[⟨1,x.r,0,0,0⟩,⟨10,0,0,0,f+31⟩] else [⟨10,0,0,0,f+29⟩]++rQ b++[⟨10,0,0,0,f+0⟩])
def tR (f b c:Int) (x:Ins):List jB :=
 [⟨5,5,-1,0,b+2⟩,⟨11,0,5,0,f+22⟩,⟨5,4,-1,0,b+1⟩,⟨5,x.r,4,0,b+4⟩,⟨1,7,0,0,1⟩,⟨2,4,4,7,0⟩,⟨3,5,5,7,0⟩,⟨1,7,0,0,c⟩,⟨4,6,4,7,0⟩,⟨11,0,6,0,f+15⟩,⟨10,0,0,0,f+16⟩,⟨1,4,0,0,0⟩,⟨6,0,-1,4,b+1⟩,⟨6,0,-1,5,b+2⟩]++rQ b++[⟨1,x.b,0,0,1⟩,⟨10,0,0,0,f+(if x.op=8 then 32 else 30)⟩,⟨5,4,-1,0,b+3⟩]++rQ b++[⟨11,0,4,0,f+29⟩,⟨1,x.r,0,0,0⟩] ++
 (if x.op=8 then [⟨1,x.b,0,0,2⟩,⟨10,0,0,0,f+32⟩,⟨1,x.r,0,0,0⟩,⟨1,x.b,0,0,0⟩,⟨10,0,0,0,f+32⟩] else [⟨1,x.b,0,0,0⟩,⟨10,0,0,0,f+30⟩,⟨10,0,0,0,f+0⟩])
def mQ (f b:Int):List jB:=nS f b++[⟨1,7,0,0,1⟩,⟨6,0,-1,7,b+3⟩]++rQ b
def wL (x:Ins):Int:=if x.op=5 then 29 else if x.op=7 then 31 else if x.op=6 then 30 else if x.op=8 then 32 else if x.op=9 then 13 else vV (qW x.op 1 13)
theorem qTy (b:Int):(rQ b).take 2=rQ b:=rfl
theorem qQ4 (f b:Int):(fP f b).take 4=fP f b:=rfl
theorem qPj (f b:Int):(nS f b).take 5=nS f b:=rfl
attribute [local go_sem] qTy qQ4 qPj qNm qL6 qKu
def qBc (x:jB) (pl:Int):Bool :=
 qW x.r 0 7&&qW x.b 0 7&&(qW x.a 0 7||((decide (x.op=5)||decide (x.op=6)||decide (x.op=7))&&decide (x.a=-1))) &&
 (if x.op=1 then qW x.n (-1000000000) 1000000000&&decide (x.a=0)&&decide (x.b=0)
  else if x.op=2∨x.op=3∨x.op=4 then decide (x.n=0)
  else if x.op=5 then qW x.n 0 23&&decide (x.b=0)
  else if x.op=6∨x.op=7 then qW x.n 0 23&&decide (x.r=0)
  else if x.op=8 then qW x.n 0 23&&decide (x.a=0)
  else if x.op=9 then decide (x.r=0)&&decide (x.b=0)&&decide (x.n=0)
  else if x.op=10 then decide (0≤x.n)&&decide (x.n<pl)&&decide (x.r=0)&&decide (x.a=0)&&decide (x.b=0)
  else if x.op=11 then decide (0≤x.n)&&decide (x.n<pl)&&decide (x.r=0)&&decide (x.b=0)
  else if x.op=12∨x.op=13 then decide (x.r=0)&&(decide (x.a=0)&&(decide (x.b=0)&&decide (x.n=0)))
  else false)
end Go.Sep
