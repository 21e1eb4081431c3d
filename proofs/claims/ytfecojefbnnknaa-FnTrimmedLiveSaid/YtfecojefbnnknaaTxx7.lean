/- Contracts of functions. -/
import Derived.Test.YtfecojefbnnknaaTxx1
open List renaming map_cons → qZ5, mem_map → wAo
namespace Go.Sep
set_option maxHeartbeats 16000000
open Go.Proofs
set_option linter.unusedSimpArgs false
set_option linter.unusedVariables false
set_option maxRecDepth 100000
structure yU where
 op:Int
 r:Int
 a:Int
 b:Int
 n:Int
 deriving DecidableEq,Inhabited
def qB9 (x:yU):List AV:=[.int .i64 x.op,.int .i64 x.r,.int .i64 x.a,.int .i64 x.b,.int .i64 x.n]
def gB (l:List yU):List (List AV):=l.map qB9
theorem qQg:gB []=[]:=rfl
theorem rS (l:List yU):(gB l).length=l.length:=by simp [gB]
theorem qIj (l k:List yU):gB l++gB k=gB (l++k):=by simp [gB]
theorem qDd (l:List yU) (n:Nat):(gB l).drop n=gB (l.drop n):=by simp [gB]
theorem qDc (l:List yU) (n:Nat):(gB l).take n=gB (l.take n):=by simp [gB]
theorem qQe (l:List yU) (i:Nat) (op_:Int) (r_:Int) (a_:Int) (b_:Int) (n_:Int):(gB l).set i [.int .i64 op_,.int .i64 r_,.int .i64 a_,.int .i64 b_,.int .i64 n_]=gB (l.set i ⟨op_,r_,a_,b_,n_⟩):=by simp [gB,qB9]
theorem iS (A:Nat→Prop) (l:List yU):yM A (gB l)↔True:=by
 simp only [iff_true]
 induction l with
 | nil=>trivial
 | cons x l ih=>exact ⟨by simp [qB9,yX,bnd,zE,yT,vZ,jK,vF,uD,uN,vD,bR,gK,uU,eD],ih⟩
theorem cO (l:List yU):nbr (gB l)↔True:=by
 simp only [iff_true]
 induction l with
 | nil=>trivial
 | cons x l ih=>exact ⟨by simp [qB9,nbs,nb,vY,bL,vH,uX,bF,uV,vW,dL,dR,bV,iM],ih⟩
theorem iR :∀(l:List yU),bwR (gB l)=gB l
 | []=>rfl
 | x::l=>by
  have:=iR l
  simp only [gB,qZ5,bwR] at this⊢
  rw [this]
  simp [qB9,bwL,bwC,uJ,bC,jW,uL,uY,bE,vL,gO,dO,bD,fE]
theorem qMs (l:List yU):free (gB l)↔True:=by
 simp only [iff_true]
 intro r hr c hc
 simp only [gB,wAo] at hr
 obtain ⟨x,_,rfl⟩:=hr
 simp [qB9] at hc
 rcases hc with rfl | rfl | rfl | rfl | rfl<;>rfl
def codes (m:Mode) (l:List (List yU)):List (List AV):=l.map fun b=>[.sl m 5 (gB b)]
theorem qS0 (m:Mode):codes m []=[]:=rfl
theorem tJ (m:Mode) (l:List (List yU)):(codes m l).length=l.length:=by simp [codes]
theorem qJh (m:Mode) (l k:List (List yU)):codes m l++codes m k=codes m (l++k):=by simp [codes]
theorem qEu (m:Mode) (l:List (List yU)) (n:Nat):(codes m l).drop n=codes m (l.drop n):=by simp [codes]
theorem qEt (m:Mode) (l:List (List yU)) (n:Nat):(codes m l).take n=codes m (l.take n):=by simp [codes]
theorem qRx (m:Mode) (l:List (List yU)) (i:Nat) (b_:List yU):(codes m l).set i [.sl m 5 (gB b_)]=codes m (l.set i b_):=by simp [codes]
theorem oU (A:Nat→Prop) (m:Mode) (l:List (List yU)):yM A (codes m l)↔True:=by
 simp only [iff_true]
 induction l with
 | nil=>trivial
 | cons x l ih=>exact ⟨by simp [yX,bnd,zE,yT,vZ,jK,vF,uD,uN,vD,bR,gK,uU,eD,iS],ih⟩
theorem fD (l:List (List yU)):nbr (codes .own l)↔True:=by
 simp only [iff_true]
 induction l with
 | nil=>trivial
 | cons x l ih=>exact ⟨by simp [nbs,nb,vY,bL,vH,uX,bF,uV,vW,dL,dR,bV,iM,cO],ih⟩
theorem nT (m:Mode) :∀(l:List (List yU)),bwR (codes m l)=codes .bw l
 | []=>rfl
 | x::l=>by
  have:=nT m l
  simp only [codes,qZ5,bwR] at this⊢
  rw [this]
  simp [bwL,bwC,uJ,bC,jW,uL,uY,bE,vL,gO,dO,bD,fE,iR]
theorem qNz (l:List (List yU)):free (codes .bw l)↔True:=by
 simp only [iff_true]
 intro r hr c hc
 simp only [codes,wAo] at hr
 obtain ⟨x,_,rfl⟩:=hr
 simp [] at hc
 rcases hc with rfl<;>rfl
structure wY where
 v:Int
 view:List Int
 deriving DecidableEq,Inhabited
def mF (m:Mode) (x:wY):List AV:=[.int .i64 x.v,.sl m 1 (wK x.view)]
def vV (m:Mode) (l:List wY):List (List AV):=l.map (mF m)
theorem qMm (m:Mode):vV m []=[]:=rfl
theorem pC (m:Mode) (l:List wY):(vV m l).length=l.length:=by simp [vV]
theorem qFo (m:Mode) (l k:List wY):vV m l++vV m k=vV m (l++k):=by simp [vV]
theorem qB6 (m:Mode) (l:List wY) (n:Nat):(vV m l).drop n=vV m (l.drop n):=by simp [vV]
theorem qB5 (m:Mode) (l:List wY) (n:Nat):(vV m l).take n=vV m (l.take n):=by simp [vV]
theorem qMj (m:Mode) (l:List wY) (i:Nat) (v_:Int) (view_:List Int):(vV m l).set i [.int .i64 v_,.sl m 1 (wK view_)]=vV m (l.set i ⟨v_,view_⟩):=by simp [vV,mF]
theorem pM (A:Nat→Prop) (m:Mode) (l:List wY):yM A (vV m l)↔True:=by
 simp only [iff_true]
 induction l with
 | nil=>trivial
 | cons x l ih=>exact ⟨by simp [mF,yX,bnd,zE,yT,vZ,jK,vF,uD,uN,vD,bR,gK,uU,eD,iS,oU],ih⟩
theorem cE (l:List wY):nbr (vV .own l)↔True:=by
 simp only [iff_true]
 induction l with
 | nil=>trivial
 | cons x l ih=>exact ⟨by simp [mF,nbs,nb,vY,bL,vH,uX,bF,uV,vW,dL,dR,bV,iM,cO,fD],ih⟩
theorem oD (m:Mode) :∀(l:List wY),bwR (vV m l)=vV .bw l
 | []=>rfl
 | x::l=>by
  have:=oD m l
  simp only [vV,qZ5,bwR] at this⊢
  rw [this]
  simp [mF,bwL,bwC,uJ,bC,jW,uL,uY,bE,vL,gO,dO,bD,fE,iR,nT]
theorem qK1 (l:List wY):free (vV .bw l)↔True:=by
 simp only [iff_true]
 intro r hr c hc
 simp only [vV,wAo] at hr
 obtain ⟨x,_,rfl⟩:=hr
 simp [mF] at hc
 rcases hc with rfl | rfl<;>rfl
def dS (m:Mode) (l:List (List wY)):List (List AV):=l.map fun b=>[.sl m 2 (vV m b)]
theorem qV3 (m:Mode):dS m []=[]:=rfl
theorem qC0 (m:Mode) (l:List (List wY)):(dS m l).length=l.length:=by simp [dS]
theorem qM2 (m:Mode) (l k:List (List wY)):dS m l++dS m k=dS m (l++k):=by simp [dS]
theorem qHu (m:Mode) (l:List (List wY)) (n:Nat):(dS m l).drop n=dS m (l.drop n):=by simp [dS]
theorem qHt (m:Mode) (l:List (List wY)) (n:Nat):(dS m l).take n=dS m (l.take n):=by simp [dS]
theorem qV0 (m:Mode) (l:List (List wY)) (i:Nat) (b_:List wY):(dS m l).set i [.sl m 2 (vV m b_)]=dS m (l.set i b_):=by simp [dS]
theorem qM1 (A:Nat→Prop) (m:Mode) (l:List (List wY)):yM A (dS m l)↔True:=by
 simp only [iff_true]
 induction l with
 | nil=>trivial
 | cons x l ih=>exact ⟨by simp [yX,bnd,zE,yT,vZ,jK,vF,uD,uN,vD,bR,gK,uU,eD,iS,oU,pM],ih⟩
theorem tM (l:List (List wY)):nbr (dS .own l)↔True:=by
 simp only [iff_true]
 induction l with
 | nil=>trivial
 | cons x l ih=>exact ⟨by simp [nbs,nb,vY,bL,vH,uX,bF,uV,vW,dL,dR,bV,iM,cO,fD,cE],ih⟩
theorem qJo (m:Mode) :∀(l:List (List wY)),bwR (dS m l)=dS .bw l
 | []=>rfl
 | x::l=>by
  have:=qJo m l
  simp only [dS,qZ5,bwR] at this⊢
  rw [this]
  simp [bwL,bwC,uJ,bC,jW,uL,uY,bE,vL,gO,dO,bD,fE,iR,nT,oD]
theorem qS5 (l:List (List wY)):free (dS .bw l)↔True:=by
 simp only [iff_true]
 intro r hr c hc
 simp only [dS,wAo] at hr
 obtain ⟨x,_,rfl⟩:=hr
 simp [] at hc
 rcases hc with rfl<;>rfl
structure uE where
 at_:Int
 regs:List Int
 view:List Int
 st:Int
 deriving DecidableEq,Inhabited
def qBt (m:Mode) (x:uE):List AV:=[.int .i64 x.at_,.sl m 1 (wK x.regs),.sl m 1 (wK x.view),.int .i64 x.st]
def cores (m:Mode) (l:List uE):List (List AV):=l.map (qBt m)
theorem qRu (m:Mode):cores m []=[]:=rfl
theorem tI (m:Mode) (l:List uE):(cores m l).length=l.length:=by simp [cores]
theorem qJf (m:Mode) (l k:List uE):cores m l++cores m k=cores m (l++k):=by simp [cores]
theorem qEr (m:Mode) (l:List uE) (n:Nat):(cores m l).drop n=cores m (l.drop n):=by simp [cores]
theorem qEq (m:Mode) (l:List uE) (n:Nat):(cores m l).take n=cores m (l.take n):=by simp [cores]
theorem qRr (m:Mode) (l:List uE) (i:Nat) (at__:Int) (regs_:List Int) (view_:List Int) (st_:Int):(cores m l).set i [.int .i64 at__,.sl m 1 (wK regs_),.sl m 1 (wK view_),.int .i64 st_]=cores m (l.set i ⟨at__,regs_,view_,st_⟩):=by simp [cores,qBt]
theorem qRv (A:Nat→Prop) (m:Mode) (l:List uE):yM A (cores m l)↔True:=by
 simp only [iff_true]
 induction l with
 | nil=>trivial
 | cons x l ih=>exact ⟨by simp [qBt,yX,bnd,zE,yT,vZ,jK,vF,uD,uN,vD,bR,gK,uU,eD,iS,oU,pM,qM1],ih⟩
theorem tH (l:List uE):nbr (cores .own l)↔True:=by
 simp only [iff_true]
 induction l with
 | nil=>trivial
 | cons x l ih=>exact ⟨by simp [qBt,nbs,nb,vY,bL,vH,uX,bF,uV,vW,dL,dR,bV,iM,cO,fD,cE,tM],ih⟩
theorem qLt (m:Mode) :∀(l:List uE),bwR (cores m l)=cores .bw l
 | []=>rfl
 | x::l=>by
  have:=qLt m l
  simp only [cores,qZ5,bwR] at this⊢
  rw [this]
  simp [qBt,bwL,bwC,uJ,bC,jW,uL,uY,bE,vL,gO,dO,bD,fE,iR,nT,oD,qJo]
theorem qNw (l:List uE):free (cores .bw l)↔True:=by
 simp only [iff_true]
 intro r hr c hc
 simp only [cores,wAo] at hr
 obtain ⟨x,_,rfl⟩:=hr
 simp [qBt] at hc
 rcases hc with rfl | rfl | rfl | rfl<;>rfl
structure qCj where
 who:Int
 late:Int
 deriving DecidableEq,Inhabited
def qX1 (x:qCj):List AV:=[.int .i64 x.who,.int .i64 x.late]
structure qVg where
 cells:List (List wY)
 deriving DecidableEq,Inhabited
def qPh (m:Mode) (x:qVg):List AV:=[.sl m 1 (dS m x.cells)]
structure qO where
 codes:List (List yU)
 cores:List uE
 mem:qVg
 tr:List bS
 deriving DecidableEq,Inhabited
def qL4 (m:Mode) (x:qO):List AV:=[.sl m 1 (codes m x.codes),.sl m 4 (cores m x.cores),.sl m 1 (dS m x.mem.cells),.sl m 2 (jB x.tr)]
attribute [go_sem] rS qIj qDd qDc qQe qB9 tJ qJh qEu qEt qRx pC qFo qB6 qB5 qMj mF qC0 qM2 qHu qHt qV0 tI qJf qEr qEq qRr qBt qX1 qPh qL4
attribute [simp] qQg iR iS cO rS qDc qDd qMs qS0 nT oU fD tJ qEt qEu qNz qMm oD pM cE pC qB5 qB6 qK1 qV3 qJo qM1 tM qC0 qHt qHu qS5 qRu qLt qRv tH tI qEq qEr qNw qB9 mF qBt qX1 qPh qL4
attribute [local go_sem] qUm
def pB (b:Int):List yU:=[⟨1,7,0,0,0⟩,⟨7,0,-1,7,b⟩]
def cW (f b:Int):List yU:=[⟨1,7,0,0,1⟩,⟨8,6,0,7,b⟩,⟨11,0,6,0,f+4⟩,⟨10,0,0,0,f+0⟩]
def mK (f b:Int):List yU:=[⟨5,4,-1,0,b+3⟩,⟨11,0,4,0,f+9⟩]++pB b++[⟨13,0,0,0,0⟩]
@[simp] theorem qL7 (b:Int):(pB b).length=2:=rfl
@[simp] theorem qJ0 (f b:Int):(cW f b).length=4:=rfl
@[simp] theorem qIp (f b:Int):(mK f b).length=5:=rfl
def rZ (f b c:Int) (x:Ins):List yU :=
 mK f b++[⟨5,5,-1,0,b+2⟩,⟨1,7,0,0,c⟩,⟨4,6,5,7,0⟩,⟨11,0,6,0,f+(26+uK (decide (x.op=7)))⟩,⟨5,4,-1,0,b+1⟩,⟨2,4,4,5,0⟩,⟨4,6,4,7,0⟩,⟨11,0,6,0,f+18⟩,⟨10,0,0,0,f+19⟩,⟨3,4,4,7,0⟩,⟨6,0,4,x.a,b+4⟩,⟨1,7,0,0,1⟩,⟨2,5,5,7,0⟩,⟨6,0,-1,5,b+2⟩]++pB b ++
 (if x.op=7 then [⟨1,x.r,0,0,1⟩,⟨10,0,0,0,f+31⟩]++pB b++[⟨1,x.r,0,0,0⟩,⟨10,0,0,0,f+31⟩] else [⟨10,0,0,0,f+29⟩]++pB b++[⟨10,0,0,0,f+0⟩])
def rP (f b c:Int) (x:Ins):List yU :=
 [⟨5,5,-1,0,b+2⟩,⟨11,0,5,0,f+22⟩,⟨5,4,-1,0,b+1⟩,⟨5,x.r,4,0,b+4⟩,⟨1,7,0,0,1⟩,⟨2,4,4,7,0⟩,⟨3,5,5,7,0⟩,⟨1,7,0,0,c⟩,⟨4,6,4,7,0⟩,⟨11,0,6,0,f+15⟩,⟨10,0,0,0,f+16⟩,⟨1,4,0,0,0⟩,⟨6,0,-1,4,b+1⟩,⟨6,0,-1,5,b+2⟩]++pB b++[⟨1,x.b,0,0,1⟩,⟨10,0,0,0,f+(if x.op=8 then 32 else 30)⟩,⟨5,4,-1,0,b+3⟩]++pB b++[⟨11,0,4,0,f+29⟩,⟨1,x.r,0,0,0⟩] ++
 (if x.op=8 then [⟨1,x.b,0,0,2⟩,⟨10,0,0,0,f+32⟩,⟨1,x.r,0,0,0⟩,⟨1,x.b,0,0,0⟩,⟨10,0,0,0,f+32⟩] else [⟨1,x.b,0,0,0⟩,⟨10,0,0,0,f+30⟩,⟨10,0,0,0,f+0⟩])
def lP (f b:Int):List yU:=mK f b++[⟨1,7,0,0,1⟩,⟨6,0,-1,7,b+3⟩]++pB b
def wE (x:Ins):Int:=if x.op=5 then 29 else if x.op=7 then 31 else if x.op=6 then 30 else if x.op=8 then 32 else if x.op=9 then 13 else uK (qT x.op 1 13)
theorem qRc (b:Int):(pB b).take 2=pB b:=rfl
theorem qNi (f b:Int):(cW f b).take 4=cW f b:=rfl
theorem qMv (f b:Int):(mK f b).take 5=mK f b:=rfl
attribute [local go_sem] qRc qNi qMv qL7 qJ0 qIp
def qA0 (x:yU) (pl:Int):Bool :=
 qT x.r 0 7&&qT x.b 0 7&&(qT x.a 0 7||((decide (x.op=5)||decide (x.op=6)||decide (x.op=7))&&decide (x.a=-1))) &&
 (if x.op=1 then qT x.n (-1000000000) 1000000000&&decide (x.a=0)&&decide (x.b=0)
  else if x.op=2∨x.op=3∨x.op=4 then decide (x.n=0)
  else if x.op=5 then qT x.n 0 23&&decide (x.b=0)
  else if x.op=6∨x.op=7 then qT x.n 0 23&&decide (x.r=0)
  else if x.op=8 then qT x.n 0 23&&decide (x.a=0)
  else if x.op=9 then decide (x.r=0)&&decide (x.b=0)&&decide (x.n=0)
  else if x.op=10 then decide (0≤x.n)&&decide (x.n<pl)&&decide (x.r=0)&&decide (x.a=0)&&decide (x.b=0)
  else if x.op=11 then decide (0≤x.n)&&decide (x.n<pl)&&decide (x.r=0)&&decide (x.b=0)
  else if x.op=12∨x.op=13 then decide (x.r=0)&&(decide (x.a=0)&&(decide (x.b=0)&&decide (x.n=0)))
  else false)
end Go.Sep
