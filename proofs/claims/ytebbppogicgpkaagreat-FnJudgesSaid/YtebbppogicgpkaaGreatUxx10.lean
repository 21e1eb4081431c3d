/- Contracts of functions. -/
import Derived.Test.YtebbppogicgpkaaGreatUxx0
open List renaming getD_eq_getElem?_getD → qXq, map_cons → qXl
namespace Go.Sep
set_option maxHeartbeats 16000000
open Go.Proofs
set_option linter.unusedSimpArgs false
set_option linter.unusedVariables false
set_option maxRecDepth 100000
structure yK where
 op:Int
 r:Int
 a:Int
 b:Int
 n:Int
 deriving DecidableEq,Inhabited
def bV (x:yK):List AV:=[.int .i64 x.op,.int .i64 x.r,.int .i64 x.a,.int .i64 x.b,.int .i64 x.n]
def jE (l:List yK):List (List AV):=l.map bV
theorem qS0:jE []=[]:=rfl
theorem pS (l:List yK):(jE l).length=l.length:=by simp [jE]
theorem jH (l k:List yK):jE l++jE k=jE (l++k):=by simp [jE]
theorem zH (op_:Int) (r_:Int) (a_:Int) (b_:Int) (n_:Int):[[.int .i64 op_,.int .i64 r_,.int .i64 a_,.int .i64 b_,.int .i64 n_]]=jE [⟨op_,r_,a_,b_,n_⟩]:=rfl
theorem qGm (l:List yK) (n:Nat):(jE l).take n=jE (l.take n):=by simp [jE]
theorem aS (l:List yK) (i:Nat) (h:i<l.length):(jE l).getD i []=[.int .i64 (l.getD i default).op,.int .i64 (l.getD i default).r,.int .i64 (l.getD i default).a,.int .i64 (l.getD i default).b,.int .i64 (l.getD i default).n]:=by simp [jE,bV,List.getD_eq_getElem?_getD,h]
theorem iI (A:Nat→Prop) (l:List yK):jU A (jE l)↔True:=by
 simp only [iff_true]
 induction l with
 | nil=>trivial
 | cons x l ih=>exact ⟨by simp [bV,vL,bnd,eU,jB,dL,bG,dA,dN,zJ,gP,aI,eI,xU,nS],ih⟩
theorem fY (l:List yK):nbr (jE l)↔True:=by
 simp only [iff_true]
 induction l with
 | nil=>trivial
 | cons x l ih=>exact ⟨by simp [bV,nbs,nb,dI,xW,gN,zQ,aA,zO,dQ,eQ,cX,aU,tQ],ih⟩
theorem mE :∀(l:List yK),bwR (jE l)=jE l
 | []=>rfl
 | x::l=>by
  have:=mE l
  simp only [jE,qXl,bwR] at this⊢
  rw [this]
  simp [bV,bwL,bwC,dX,xY,gO,zR,aB,aL,dR,eR,cY,aV,tR]
theorem qPa (l:List yK):free (jE l)↔True:=by
 simp only [iff_true]
 intro r hr c hc
 simp only [jE,List.mem_map] at hr
 obtain ⟨x,_,rfl⟩:=hr
 simp [bV] at hc
 rcases hc with rfl | rfl | rfl | rfl | rfl<;>rfl
def codes (m:Mode) (l:List (List yK)):List (List AV):=l.map fun b=>[.sl m 5 (jE b)]
theorem qT4 (m:Mode):codes m []=[]:=rfl
theorem gH (m:Mode) (l:List (List yK)):(codes m l).length=l.length:=by simp [codes]
theorem qD7 (m:Mode) (l k:List (List yK)):codes m l++codes m k=codes m (l++k):=by simp [codes]
theorem qId (m:Mode) (l:List (List yK)) (n:Nat):(codes m l).take n=codes m (l.take n):=by simp [codes]
theorem aW (m:Mode) (l:List (List yK)) (i:Nat) (h:i<l.length):(codes m l).getD i []=[.sl m 5 (jE (l.getD i []))]:=by simp [codes,List.getD_eq_getElem?_getD,h]
theorem lY (A:Nat→Prop) (m:Mode) (l:List (List yK)):jU A (codes m l)↔True:=by
 simp only [iff_true]
 induction l with
 | nil=>trivial
 | cons x l ih=>exact ⟨by simp [vL,bnd,eU,jB,dL,bG,dA,dN,zJ,gP,aI,eI,xU,nS,iI],ih⟩
theorem kT (l:List (List yK)):nbr (codes .own l)↔True:=by
 simp only [iff_true]
 induction l with
 | nil=>trivial
 | cons x l ih=>exact ⟨by simp [nbs,nb,dI,xW,gN,zQ,aA,zO,dQ,eQ,cX,aU,tQ,fY],ih⟩
theorem pC (m:Mode) :∀(l:List (List yK)),bwR (codes m l)=codes .bw l
 | []=>rfl
 | x::l=>by
  have:=pC m l
  simp only [codes,qXl,bwR] at this⊢
  rw [this]
  simp [bwL,bwC,dX,xY,gO,zR,aB,aL,dR,eR,cY,aV,tR,mE]
structure wY where
 v:Int
 view:List Int
 deriving DecidableEq,Inhabited
def sK (m:Mode) (x:wY):List AV:=[.int .i64 x.v,.sl m 1 (wS x.view)]
def vZ (m:Mode) (l:List wY):List (List AV):=l.map (sK m)
theorem qP6 (m:Mode):vZ m []=[]:=rfl
theorem cS (m:Mode) (l:List wY):(vZ m l).length=l.length:=by simp [vZ]
theorem fK (m:Mode) (l:List wY) (i:Nat) (h:i<l.length):(vZ m l).getD i []=[.int .i64 (l.getD i default).v,.sl m 1 (wS (l.getD i default).view)]:=by simp [vZ,sK,List.getD_eq_getElem?_getD,h]
theorem mB (A:Nat→Prop) (m:Mode) (l:List wY):jU A (vZ m l)↔True:=by
 simp only [iff_true]
 induction l with
 | nil=>trivial
 | cons x l ih=>exact ⟨by simp [sK,vL,bnd,eU,jB,dL,bG,dA,dN,zJ,gP,aI,eI,xU,nS,iI,lY],ih⟩
theorem iG (l:List wY):nbr (vZ .own l)↔True:=by
 simp only [iff_true]
 induction l with
 | nil=>trivial
 | cons x l ih=>exact ⟨by simp [sK,nbs,nb,dI,xW,gN,zQ,aA,zO,dQ,eQ,cX,aU,tQ,fY,kT],ih⟩
theorem oH (m:Mode) :∀(l:List wY),bwR (vZ m l)=vZ .bw l
 | []=>rfl
 | x::l=>by
  have:=oH m l
  simp only [vZ,qXl,bwR] at this⊢
  rw [this]
  simp [sK,bwL,bwC,dX,xY,gO,zR,aB,aL,dR,eR,cY,aV,tR,mE,pC]
def jT (m:Mode) (l:List (List wY)):List (List AV):=l.map fun b=>[.sl m 2 (vZ m b)]
theorem qV1 (m:Mode):jT m []=[]:=rfl
theorem yF (m:Mode) (l:List (List wY)):(jT m l).length=l.length:=by simp [jT]
theorem qL6 (m:Mode) (l:List (List wY)) (n:Nat):(jT m l).take n=jT m (l.take n):=by simp [jT]
theorem vR (m:Mode) (l:List (List wY)) (i:Nat) (b_:List wY):(jT m l).set i [.sl m 2 (vZ m b_)]=jT m (l.set i b_):=by simp [jT]
theorem vG (m:Mode) (l:List (List wY)) (i:Nat) (h:i<l.length):(jT m l).getD i []=[.sl m 2 (vZ m (l.getD i []))]:=by simp [jT,List.getD_eq_getElem?_getD,h]
theorem qDa (A:Nat→Prop) (m:Mode) (l:List (List wY)):jU A (jT m l)↔True:=by
 simp only [iff_true]
 induction l with
 | nil=>trivial
 | cons x l ih=>exact ⟨by simp [vL,bnd,eU,jB,dL,bG,dA,dN,zJ,gP,aI,eI,xU,nS,iI,lY,mB],ih⟩
theorem rR (l:List (List wY)):nbr (jT .own l)↔True:=by
 simp only [iff_true]
 induction l with
 | nil=>trivial
 | cons x l ih=>exact ⟨by simp [nbs,nb,dI,xW,gN,zQ,aA,zO,dQ,eQ,cX,aU,tQ,fY,kT,iG],ih⟩
theorem qG9 (m:Mode) :∀(l:List (List wY)),bwR (jT m l)=jT .bw l
 | []=>rfl
 | x::l=>by
  have:=qG9 m l
  simp only [jT,qXl,bwR] at this⊢
  rw [this]
  simp [bwL,bwC,dX,xY,gO,zR,aB,aL,dR,eR,cY,aV,tR,mE,pC,oH]
structure bZ where
 at_:Int
 regs:List Int
 view:List Int
 st:Int
 deriving DecidableEq,Inhabited
def nM (m:Mode) (x:bZ):List AV:=[.int .i64 x.at_,.sl m 1 (wS x.regs),.sl m 1 (wS x.view),.int .i64 x.st]
def cores (m:Mode) (l:List bZ):List (List AV):=l.map (nM m)
theorem qT2 (m:Mode):cores m []=[]:=rfl
theorem jV (m:Mode) (l:List bZ):(cores m l).length=l.length:=by simp [cores]
theorem qIa (m:Mode) (l:List bZ) (n:Nat):(cores m l).take n=cores m (l.take n):=by simp [cores]
theorem qK (m:Mode) (l:List bZ) (i:Nat) (at__:Int) (regs_:List Int) (view_:List Int) (st_:Int):(cores m l).set i [.int .i64 at__,.sl m 1 (wS regs_),.sl m 1 (wS view_),.int .i64 st_]=cores m (l.set i ⟨at__,regs_,view_,st_⟩):=by simp [cores,nM]
theorem vC (m:Mode) (l:List bZ) (i:Nat) (h:i<l.length):(cores m l).getD i []=[.int .i64 (l.getD i default).at_,.sl m 1 (wS (l.getD i default).regs),.sl m 1 (wS (l.getD i default).view),.int .i64 (l.getD i default).st]:=by simp [cores,nM,List.getD_eq_getElem?_getD,h]
theorem qEp (A:Nat→Prop) (m:Mode) (l:List bZ):jU A (cores m l)↔True:=by
 simp only [iff_true]
 induction l with
 | nil=>trivial
 | cons x l ih=>exact ⟨by simp [nM,vL,bnd,eU,jB,dL,bG,dA,dN,zJ,gP,aI,eI,xU,nS,iI,lY,mB,qDa],ih⟩
theorem kP (l:List bZ):nbr (cores .own l)↔True:=by
 simp only [iff_true]
 induction l with
 | nil=>trivial
 | cons x l ih=>exact ⟨by simp [nM,nbs,nb,dI,xW,gN,zQ,aA,zO,dQ,eQ,cX,aU,tQ,fY,kT,iG,rR],ih⟩
theorem qIb (m:Mode) :∀(l:List bZ),bwR (cores m l)=cores .bw l
 | []=>rfl
 | x::l=>by
  have:=qIb m l
  simp only [cores,qXl,bwR] at this⊢
  rw [this]
  simp [nM,bwL,bwC,dX,xY,gO,zR,aB,aL,dR,eR,cY,aV,tR,mE,pC,oH,qG9]
structure uF where
 who:Int
 late:Int
 deriving DecidableEq,Inhabited
def mJ (x:uF):List AV:=[.int .i64 x.who,.int .i64 x.late]
def aH (l:List uF):List (List AV):=l.map mJ
theorem qTv:aH []=[]:=rfl
theorem sU (l:List uF):(aH l).length=l.length:=by simp [aH]
theorem qKe (l:List uF) (n:Nat):(aH l).take n=aH (l.take n):=by simp [aH]
theorem qA1 (l:List uF) (i:Nat) (h:i<l.length):(aH l).getD i []=[.int .i64 (l.getD i default).who,.int .i64 (l.getD i default).late]:=by simp [aH,mJ,List.getD_eq_getElem?_getD,h]
theorem qNi (A:Nat→Prop) (l:List uF):jU A (aH l)↔True:=by
 simp only [iff_true]
 induction l with
 | nil=>trivial
 | cons x l ih=>exact ⟨by simp [mJ,vL,bnd,eU,jB,dL,bG,dA,dN,zJ,gP,aI,eI,xU,nS,iI,lY,mB,qDa,qEp],ih⟩
theorem qR9 (l:List uF):nbr (aH l)↔True:=by
 simp only [iff_true]
 induction l with
 | nil=>trivial
 | cons x l ih=>exact ⟨by simp [mJ,nbs,nb,dI,xW,gN,zQ,aA,zO,dQ,eQ,cX,aU,tQ,fY,kT,iG,rR,kP],ih⟩
theorem qRa :∀(l:List uF),bwR (aH l)=aH l
 | []=>rfl
 | x::l=>by
  have:=qRa l
  simp only [aH,qXl,bwR] at this⊢
  rw [this]
  simp [mJ,bwL,bwC,dX,xY,gO,zR,aB,aL,dR,eR,cY,aV,tR,mE,pC,oH,qG9,qIb]
structure qEy where
 cells:List (List wY)
 deriving DecidableEq,Inhabited
def uO (m:Mode) (x:qEy):List AV:=[.sl m 1 (jT m x.cells)]
def oV (m:Mode) (l:List qEy):List (List AV):=l.map (uO m)
theorem qM3 (m:Mode):oV m []=[]:=rfl
theorem lB (m:Mode) (l:List qEy):(oV m l).length=l.length:=by simp [oV]
theorem qM4 (A:Nat→Prop) (m:Mode) (l:List qEy):jU A (oV m l)↔True:=by
 simp only [iff_true]
 induction l with
 | nil=>trivial
 | cons x l ih=>exact ⟨by simp [uO,vL,bnd,eU,jB,dL,bG,dA,dN,zJ,gP,aI,eI,xU,nS,iI,lY,mB,qDa,qEp,qNi],ih⟩
theorem qNu (l:List qEy):nbr (oV .own l)↔True:=by
 simp only [iff_true]
 induction l with
 | nil=>trivial
 | cons x l ih=>exact ⟨by simp [uO,nbs,nb,dI,xW,gN,zQ,aA,zO,dQ,eQ,cX,aU,tQ,fY,kT,iG,rR,kP,qR9],ih⟩
structure qY where
 codes:List (List yK)
 cores:List bZ
 mem:qEy
 tr:List aP
 deriving DecidableEq,Inhabited
def qX (m:Mode) (x:qY):List AV:=[.sl m 1 (codes m x.codes),.sl m 4 (cores m x.cores),.sl m 1 (jT m x.mem.cells),.sl m 2 (jZ x.tr)]
structure Em where
 list:List yK
 from_:Int
 base:Int
 room:Int
 deriving Inhabited
def emC (m:Mode) (x:Em):List AV:=[.sl m 5 (jE x.list),.int .i64 x.from_,.int .i64 x.base,.int .i64 x.room]
theorem fS2:((∀l,(jE l).length=l.length)∧(∀m l,(codes m l).length=l.length)∧(∀m l,(vZ m l).length=l.length)∧(∀m l,(jT m l).length=l.length)∧(∀m l,(cores m l).length=l.length)∧(∀l,(aH l).length=l.length)∧(∀m l,(oV m l).length=l.length)):=⟨by intros; simp [pS],by intros; simp [gH],by intros; simp [cS],by intros; simp [yF],by intros; simp [jV],by intros; simp [sU],by intros; simp [lB]⟩
attribute [go_sem] pS jH qGm bV gH qD7 qId cS sK yF qL6 vR jV qIa qK nM sU qKe mJ lB uO qX emC
attribute [simp] qS0 mE iI fY pS qGm qPa qT4 pC lY kT gH qId qP6 oH mB iG cS qV1 qG9 qDa rR yF qL6 qT2 qIb qEp kP jV qIa qTv qRa qNi qR9 sU qKe qM3 qM4 qNu lB bV sK nM mJ uO qX emC
end Go.Sep
