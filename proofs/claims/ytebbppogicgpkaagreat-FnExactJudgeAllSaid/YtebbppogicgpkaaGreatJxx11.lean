/- Contracts of functions. -/
import Derived.Test.YtebbppogicgpkaaGreatJxx0
open List renaming getD_eq_getElem?_getD → qWw, map_cons → qWr
namespace Go.Sep
set_option maxHeartbeats 16000000
open Go.Proofs
set_option linter.unusedSimpArgs false
set_option linter.unusedVariables false
set_option maxRecDepth 100000
structure yH where
 op:Int
 r:Int
 a:Int
 b:Int
 n:Int
 deriving DecidableEq,Inhabited
def bU (x:yH):List AV:=[.int .i64 x.op,.int .i64 x.r,.int .i64 x.a,.int .i64 x.b,.int .i64 x.n]
def jB (l:List yH):List (List AV):=l.map bU
theorem qQz:jB []=[]:=rfl
theorem pB (l:List yH):(jB l).length=l.length:=by simp [jB]
theorem jE (l k:List yH):jB l++jB k=jB (l++k):=by simp [jB]
theorem zE (op_:Int) (r_:Int) (a_:Int) (b_:Int) (n_:Int):[[.int .i64 op_,.int .i64 r_,.int .i64 a_,.int .i64 b_,.int .i64 n_]]=jB [⟨op_,r_,a_,b_,n_⟩]:=rfl
theorem qFv (l:List yH) (n:Nat):(jB l).take n=jB (l.take n):=by simp [jB]
theorem aK (l:List yH) (i:Nat) (h:i<l.length):(jB l).getD i []=[.int .i64 (l.getD i default).op,.int .i64 (l.getD i default).r,.int .i64 (l.getD i default).a,.int .i64 (l.getD i default).b,.int .i64 (l.getD i default).n]:=by simp [jB,bU,List.getD_eq_getElem?_getD,h]
theorem iC (A:Nat→Prop) (l:List yH):jS A (jB l)↔True:=by
 simp only [iff_true]
 induction l with
 | nil=>trivial
 | cons x l ih=>exact ⟨by simp [bU,vI,bnd,eM,yZ,dI,bE,gX,dJ,zF,gN,aC,eB,xK,nD],ih⟩
theorem fT (l:List yH):nbr (jB l)↔True:=by
 simp only [iff_true]
 induction l with
 | nil=>trivial
 | cons x l ih=>exact ⟨by simp [bU,nbs,nb,dF,xM,gL,zL,xU,zJ,dM,eI,cQ,aM,sT],ih⟩
theorem lR :∀(l:List yH),bwR (jB l)=jB l
 | []=>rfl
 | x::l=>by
  have:=lR l
  simp only [jB,qWr,bwR] at this⊢
  rw [this]
  simp [bU,bwL,bwC,dU,xO,gM,zM,xV,aF,dN,eJ,cR,aN,sU]
theorem qO3 (l:List yH):free (jB l)↔True:=by
 simp only [iff_true]
 intro r hr c hc
 simp only [jB,List.mem_map] at hr
 obtain ⟨x,_,rfl⟩:=hr
 simp [bU] at hc
 rcases hc with rfl | rfl | rfl | rfl | rfl<;>rfl
def codes (m:Mode) (l:List (List yH)):List (List AV):=l.map fun b=>[.sl m 5 (jB b)]
theorem qS6 (m:Mode):codes m []=[]:=rfl
theorem gG (m:Mode) (l:List (List yH)):(codes m l).length=l.length:=by simp [codes]
theorem qCi (m:Mode) (l k:List (List yH)):codes m l++codes m k=codes m (l++k):=by simp [codes]
theorem qHk (m:Mode) (l:List (List yH)) (n:Nat):(codes m l).take n=codes m (l.take n):=by simp [codes]
theorem aO (m:Mode) (l:List (List yH)) (i:Nat) (h:i<l.length):(codes m l).getD i []=[.sl m 5 (jB (l.getD i []))]:=by simp [codes,List.getD_eq_getElem?_getD,h]
theorem lL (A:Nat→Prop) (m:Mode) (l:List (List yH)):jS A (codes m l)↔True:=by
 simp only [iff_true]
 induction l with
 | nil=>trivial
 | cons x l ih=>exact ⟨by simp [vI,bnd,eM,yZ,dI,bE,gX,dJ,zF,gN,aC,eB,xK,nD,iC],ih⟩
theorem kI (l:List (List yH)):nbr (codes .own l)↔True:=by
 simp only [iff_true]
 induction l with
 | nil=>trivial
 | cons x l ih=>exact ⟨by simp [nbs,nb,dF,xM,gL,zL,xU,zJ,dM,eI,cQ,aM,sT,fT],ih⟩
theorem oM (m:Mode) :∀(l:List (List yH)),bwR (codes m l)=codes .bw l
 | []=>rfl
 | x::l=>by
  have:=oM m l
  simp only [codes,qWr,bwR] at this⊢
  rw [this]
  simp [bwL,bwC,dU,xO,gM,zM,xV,aF,dN,eJ,cR,aN,sU,lR]
structure wX where
 v:Int
 view:List Int
 deriving DecidableEq,Inhabited
def rP (m:Mode) (x:wX):List AV:=[.int .i64 x.v,.sl m 1 (wQ x.view)]
def vX (m:Mode) (l:List wX):List (List AV):=l.map (rP m)
theorem qNt (m:Mode):vX m []=[]:=rfl
theorem cL (m:Mode) (l:List wX):(vX m l).length=l.length:=by simp [vX]
theorem fD (m:Mode) (l:List wX) (i:Nat) (h:i<l.length):(vX m l).getD i []=[.int .i64 (l.getD i default).v,.sl m 1 (wQ (l.getD i default).view)]:=by simp [vX,rP,List.getD_eq_getElem?_getD,h]
theorem lO (A:Nat→Prop) (m:Mode) (l:List wX):jS A (vX m l)↔True:=by
 simp only [iff_true]
 induction l with
 | nil=>trivial
 | cons x l ih=>exact ⟨by simp [rP,vI,bnd,eM,yZ,dI,bE,gX,dJ,zF,gN,aC,eB,xK,nD,iC,lL],ih⟩
theorem iA (l:List wX):nbr (vX .own l)↔True:=by
 simp only [iff_true]
 induction l with
 | nil=>trivial
 | cons x l ih=>exact ⟨by simp [rP,nbs,nb,dF,xM,gL,zL,xU,zJ,dM,eI,cQ,aM,sT,fT,kI],ih⟩
theorem nU (m:Mode) :∀(l:List wX),bwR (vX m l)=vX .bw l
 | []=>rfl
 | x::l=>by
  have:=nU m l
  simp only [vX,qWr,bwR] at this⊢
  rw [this]
  simp [rP,bwL,bwC,dU,xO,gM,zM,xV,aF,dN,eJ,cR,aN,sU,lR,oM]
def jR (m:Mode) (l:List (List wX)):List (List AV):=l.map fun b=>[.sl m 2 (vX m b)]
theorem qU5 (m:Mode):jR m []=[]:=rfl
theorem yE (m:Mode) (l:List (List wX)):(jR m l).length=l.length:=by simp [jR]
theorem qK5 (m:Mode) (l:List (List wX)) (n:Nat):(jR m l).take n=jR m (l.take n):=by simp [jR]
theorem vO (m:Mode) (l:List (List wX)) (i:Nat) (b_:List wX):(jR m l).set i [.sl m 2 (vX m b_)]=jR m (l.set i b_):=by simp [jR]
theorem vD (m:Mode) (l:List (List wX)) (i:Nat) (h:i<l.length):(jR m l).getD i []=[.sl m 2 (vX m (l.getD i []))]:=by simp [jR,List.getD_eq_getElem?_getD,h]
theorem qCl (A:Nat→Prop) (m:Mode) (l:List (List wX)):jS A (jR m l)↔True:=by
 simp only [iff_true]
 induction l with
 | nil=>trivial
 | cons x l ih=>exact ⟨by simp [vI,bnd,eM,yZ,dI,bE,gX,dJ,zF,gN,aC,eB,xK,nD,iC,lL,lO],ih⟩
theorem pW (l:List (List wX)):nbr (jR .own l)↔True:=by
 simp only [iff_true]
 induction l with
 | nil=>trivial
 | cons x l ih=>exact ⟨by simp [nbs,nb,dF,xM,gL,zL,xU,zJ,dM,eI,cQ,aM,sT,fT,kI,iA],ih⟩
theorem qFi (m:Mode) :∀(l:List (List wX)),bwR (jR m l)=jR .bw l
 | []=>rfl
 | x::l=>by
  have:=qFi m l
  simp only [jR,qWr,bwR] at this⊢
  rw [this]
  simp [bwL,bwC,dU,xO,gM,zM,xV,aF,dN,eJ,cR,aN,sU,lR,oM,nU]
structure bY where
 at_:Int
 regs:List Int
 view:List Int
 st:Int
 deriving DecidableEq,Inhabited
def mX (m:Mode) (x:bY):List AV:=[.int .i64 x.at_,.sl m 1 (wQ x.regs),.sl m 1 (wQ x.view),.int .i64 x.st]
def cores (m:Mode) (l:List bY):List (List AV):=l.map (mX m)
theorem qS4 (m:Mode):cores m []=[]:=rfl
theorem jT (m:Mode) (l:List bY):(cores m l).length=l.length:=by simp [cores]
theorem qHh (m:Mode) (l:List bY) (n:Nat):(cores m l).take n=cores m (l.take n):=by simp [cores]
theorem qK (m:Mode) (l:List bY) (i:Nat) (at__:Int) (regs_:List Int) (view_:List Int) (st_:Int):(cores m l).set i [.int .i64 at__,.sl m 1 (wQ regs_),.sl m 1 (wQ view_),.int .i64 st_]=cores m (l.set i ⟨at__,regs_,view_,st_⟩):=by simp [cores,mX]
theorem jZ (m:Mode) (l:List bY) (i:Nat) (h:i<l.length):(cores m l).getD i []=[.int .i64 (l.getD i default).at_,.sl m 1 (wQ (l.getD i default).regs),.sl m 1 (wQ (l.getD i default).view),.int .i64 (l.getD i default).st]:=by simp [cores,mX,List.getD_eq_getElem?_getD,h]
theorem qE0 (A:Nat→Prop) (m:Mode) (l:List bY):jS A (cores m l)↔True:=by
 simp only [iff_true]
 induction l with
 | nil=>trivial
 | cons x l ih=>exact ⟨by simp [mX,vI,bnd,eM,yZ,dI,bE,gX,dJ,zF,gN,aC,eB,xK,nD,iC,lL,lO,qCl],ih⟩
theorem kE (l:List bY):nbr (cores .own l)↔True:=by
 simp only [iff_true]
 induction l with
 | nil=>trivial
 | cons x l ih=>exact ⟨by simp [mX,nbs,nb,dF,xM,gL,zL,xU,zJ,dM,eI,cQ,aM,sT,fT,kI,iA,pW],ih⟩
theorem qHi (m:Mode) :∀(l:List bY),bwR (cores m l)=cores .bw l
 | []=>rfl
 | x::l=>by
  have:=qHi m l
  simp only [cores,qWr,bwR] at this⊢
  rw [this]
  simp [mX,bwL,bwC,dU,xO,gM,zM,xV,aF,dN,eJ,cR,aN,sU,lR,oM,nU,qFi]
structure uF where
 who:Int
 late:Int
 deriving DecidableEq,Inhabited
def fG (x:uF):List AV:=[.int .i64 x.who,.int .i64 x.late]
def dR (l:List uF):List (List AV):=l.map fG
theorem qT2:dR []=[]:=rfl
theorem rY (l:List uF):(dR l).length=l.length:=by simp [dR]
theorem qJg (l:List uF) (n:Nat):(dR l).take n=dR (l.take n):=by simp [dR]
theorem qT1 (n:Nat) (who_:Int) (late_:Int):List.replicate n [.int .i64 who_,.int .i64 late_]=dR (List.replicate n ⟨who_,late_⟩):=by simp [dR,fG]
theorem qT0 (l:List uF) (i:Nat) (who_:Int) (late_:Int):(dR l).set i [.int .i64 who_,.int .i64 late_]=dR (l.set i ⟨who_,late_⟩):=by simp [dR,fG]
theorem fH (l:List uF) (i:Nat) (h:i<l.length):(dR l).getD i []=[.int .i64 (l.getD i default).who,.int .i64 (l.getD i default).late]:=by simp [dR,fG,List.getD_eq_getElem?_getD,h]
theorem qMc (A:Nat→Prop) (l:List uF):jS A (dR l)↔True:=by
 simp only [iff_true]
 induction l with
 | nil=>trivial
 | cons x l ih=>exact ⟨by simp [fG,vI,bnd,eM,yZ,dI,bE,gX,dJ,zF,gN,aC,eB,xK,nD,iC,lL,lO,qCl,qE0],ih⟩
theorem qQ0 (l:List uF):nbr (dR l)↔True:=by
 simp only [iff_true]
 induction l with
 | nil=>trivial
 | cons x l ih=>exact ⟨by simp [fG,nbs,nb,dF,xM,gL,zL,xU,zJ,dM,eI,cQ,aM,sT,fT,kI,iA,pW,kE],ih⟩
theorem qQ1 :∀(l:List uF),bwR (dR l)=dR l
 | []=>rfl
 | x::l=>by
  have:=qQ1 l
  simp only [dR,qWr,bwR] at this⊢
  rw [this]
  simp [fG,bwL,bwC,dU,xO,gM,zM,xV,aF,dN,eJ,cR,aN,sU,lR,oM,nU,qFi,qHi]
structure qE9 where
 cells:List (List wX)
 deriving DecidableEq,Inhabited
def uM (m:Mode) (x:qE9):List AV:=[.sl m 1 (jR m x.cells)]
def oH (m:Mode) (l:List qE9):List (List AV):=l.map (uM m)
theorem qL1 (m:Mode):oH m []=[]:=rfl
theorem kO (m:Mode) (l:List qE9):(oH m l).length=l.length:=by simp [oH]
theorem qL2 (A:Nat→Prop) (m:Mode) (l:List qE9):jS A (oH m l)↔True:=by
 simp only [iff_true]
 induction l with
 | nil=>trivial
 | cons x l ih=>exact ⟨by simp [uM,vI,bnd,eM,yZ,dI,bE,gX,dJ,zF,gN,aC,eB,xK,nD,iC,lL,lO,qCl,qE0,qMc],ih⟩
theorem qMp (l:List qE9):nbr (oH .own l)↔True:=by
 simp only [iff_true]
 induction l with
 | nil=>trivial
 | cons x l ih=>exact ⟨by simp [uM,nbs,nb,dF,xM,gL,zL,xU,zJ,dM,eI,cQ,aM,sT,fT,kI,iA,pW,kE,qQ0],ih⟩
structure wA where
 codes:List (List yH)
 cores:List bY
 mem:qE9
 tr:List aH
 deriving DecidableEq,Inhabited
def qY (m:Mode) (x:wA):List AV:=[.sl m 1 (codes m x.codes),.sl m 4 (cores m x.cores),.sl m 1 (jR m x.mem.cells),.sl m 2 (jW x.tr)]
structure Em where
 list:List yH
 from_:Int
 base:Int
 room:Int
 deriving Inhabited
def emC (m:Mode) (x:Em):List AV:=[.sl m 5 (jB x.list),.int .i64 x.from_,.int .i64 x.base,.int .i64 x.room]
theorem fS2:((∀l,(jB l).length=l.length)∧(∀m l,(codes m l).length=l.length)∧(∀m l,(vX m l).length=l.length)∧(∀m l,(jR m l).length=l.length)∧(∀m l,(cores m l).length=l.length)∧(∀l,(dR l).length=l.length)∧(∀m l,(oH m l).length=l.length)):=⟨by intros; simp [pB],by intros; simp [gG],by intros; simp [cL],by intros; simp [yE],by intros; simp [jT],by intros; simp [rY],by intros; simp [kO]⟩
attribute [go_sem] pB jE qFv bU gG qCi qHk cL rP yE qK5 vO jT qHh qK mX rY qJg qT0 fG kO uM qY emC
attribute [simp] qQz lR iC fT pB qFv qO3 qS6 oM lL kI gG qHk qNt nU lO iA cL qU5 qFi qCl pW yE qK5 qS4 qHi qE0 kE jT qHh qT2 qQ1 qMc qQ0 rY qJg qL1 qL2 qMp kO bU rP mX fG uM qY emC
end Go.Sep
