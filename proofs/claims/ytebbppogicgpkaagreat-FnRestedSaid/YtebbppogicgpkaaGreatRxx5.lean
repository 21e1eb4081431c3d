/- Contracts of functions. -/
import Derived.Test.YtebbppogicgpkaaGreatRxx0
namespace Go.Sep
set_option maxHeartbeats 16000000
open Go.Proofs
set_option linter.unusedSimpArgs false
set_option linter.unusedVariables false
set_option maxRecDepth 100000
structure yC where
 op:Int
 r:Int
 a:Int
 b:Int
 n:Int
 deriving DecidableEq,Inhabited
def jZ (x:yC):List AV:=[.int .i64 x.op,.int .i64 x.r,.int .i64 x.a,.int .i64 x.b,.int .i64 x.n]
def wQ (l:List yC):List (List AV):=l.map jZ
theorem qSp:wQ []=[]:=rfl
theorem iX (l:List yC):(wQ l).length=l.length:=by simp [wQ]
theorem qL6 (l k:List yC):wQ l++wQ k=wQ (l++k):=by simp [wQ]
theorem tZ (l:List yC) (n:Nat):(wQ l).drop n=wQ (l.drop n):=by simp [wQ]
theorem qFs (l:List yC) (n:Nat):(wQ l).take n=wQ (l.take n):=by simp [wQ]
theorem qSn (l:List yC) (i:Nat) (op_:Int) (r_:Int) (a_:Int) (b_:Int) (n_:Int):(wQ l).set i [.int .i64 op_,.int .i64 r_,.int .i64 a_,.int .i64 b_,.int .i64 n_]=wQ (l.set i ⟨op_,r_,a_,b_,n_⟩):=by simp [wQ,jZ]
theorem xZ (l:List yC) (i:Nat) (h:i<l.length):(wQ l).getD i []=[.int .i64 (l.getD i default).op,.int .i64 (l.getD i default).r,.int .i64 (l.getD i default).a,.int .i64 (l.getD i default).b,.int .i64 (l.getD i default).n]:=by simp [wQ,jZ,List.getD_eq_getElem?_getD,h]
theorem fH (A:Nat→Prop) (l:List yC):jL A (wQ l)↔True:=by
 simp only [iff_true]
 induction l with
 | nil=>trivial
 | cons x l ih=>exact ⟨by simp [jZ,jX,bnd,eE,yR,gF,uK,bR,gI,dF,bE,xE,aQ,zG,mF],ih⟩
theorem cU (l:List yC):nbr (wQ l)↔True:=by
 simp only [iff_true]
 induction l with
 | nil=>trivial
 | cons x l ih=>exact ⟨by simp [jZ,nbs,nb,bX,zO,bD,dM,zQ,dJ,gK,eC,eX,aB,rV],ih⟩
theorem hU :∀(l:List yC),bwR (wQ l)=wQ l
 | []=>rfl
 | x::l=>by
  have:=hU l
  simp only [wQ,List.map_cons,bwR] at this⊢
  rw [this]
  simp [jZ,bwL,bwC,gH,dU,uW,gN,dP,zJ,bP,aH,eD,zR,oS]
theorem qPn (l:List yC):free (wQ l)↔True:=by
 simp only [iff_true]
 intro r hr c hc
 simp only [wQ,List.mem_map] at hr
 obtain ⟨x,_,rfl⟩:=hr
 simp [jZ] at hc
 rcases hc with rfl | rfl | rfl | rfl | rfl<;>rfl
def codes (m:Mode) (l:List (List yC)):List (List AV):=l.map fun b=>[.sl m 5 (wQ b)]
theorem qU6 (m:Mode):codes m []=[]:=rfl
theorem uT (m:Mode) (l:List (List yC)):(codes m l).length=l.length:=by simp [codes]
theorem qC5 (m:Mode) (l k:List (List yC)):codes m l++codes m k=codes m (l++k):=by simp [codes]
theorem qHl (m:Mode) (l:List (List yC)) (n:Nat):(codes m l).drop n=codes m (l.drop n):=by simp [codes]
theorem qHi (m:Mode) (l:List (List yC)) (n:Nat):(codes m l).take n=codes m (l.take n):=by simp [codes]
theorem qDg (m:Mode) (l:List (List yC)) (i:Nat) (b_:List yC):(codes m l).set i [.sl m 5 (wQ b_)]=codes m (l.set i b_):=by simp [codes]
theorem zV (m:Mode) (l:List (List yC)) (i:Nat) (h:i<l.length):(codes m l).getD i []=[.sl m 5 (wQ (l.getD i []))]:=by simp [codes,List.getD_eq_getElem?_getD,h]
theorem kI (A:Nat→Prop) (m:Mode) (l:List (List yC)):jL A (codes m l)↔True:=by
 simp only [iff_true]
 induction l with
 | nil=>trivial
 | cons x l ih=>exact ⟨by simp [jX,bnd,eE,yR,gF,uK,bR,gI,dF,bE,xE,aQ,zG,mF,fH],ih⟩
theorem fB (l:List (List yC)):nbr (codes .own l)↔True:=by
 simp only [iff_true]
 induction l with
 | nil=>trivial
 | cons x l ih=>exact ⟨by simp [nbs,nb,bX,zO,bD,dM,zQ,dJ,gK,eC,eX,aB,rV,cU],ih⟩
theorem lI (m:Mode) :∀(l:List (List yC)),bwR (codes m l)=codes .bw l
 | []=>rfl
 | x::l=>by
  have:=lI m l
  simp only [codes,List.map_cons,bwR] at this⊢
  rw [this]
  simp [bwL,bwC,gH,dU,uW,gN,dP,zJ,bP,aH,eD,zR,oS,hU]
theorem qQu (l:List (List yC)):free (codes .bw l)↔True:=by
 simp only [iff_true]
 intro r hr c hc
 simp only [codes,List.mem_map] at hr
 obtain ⟨x,_,rfl⟩:=hr
 simp [] at hc
 rcases hc with rfl<;>rfl
structure wR where
 v:Int
 view:List Int
 deriving DecidableEq,Inhabited
def kM (m:Mode) (x:wR):List AV:=[.int .i64 x.v,.sl m 1 (wK x.view)]
def yK (m:Mode) (l:List wR):List (List AV):=l.map (kM m)
theorem qPj (m:Mode):yK m []=[]:=rfl
theorem eT (m:Mode) (l:List wR):(yK m l).length=l.length:=by simp [yK]
theorem tH (m:Mode) (l k:List wR):yK m l++yK m k=yK m (l++k):=by simp [yK]
theorem qDt (m:Mode) (l:List wR) (n:Nat):(yK m l).drop n=yK m (l.drop n):=by simp [yK]
theorem qDr (m:Mode) (l:List wR) (n:Nat):(yK m l).take n=yK m (l.take n):=by simp [yK]
theorem qPg (m:Mode) (l:List wR) (i:Nat) (v_:Int) (view_:List Int):(yK m l).set i [.int .i64 v_,.sl m 1 (wK view_)]=yK m (l.set i ⟨v_,view_⟩):=by simp [yK,kM]
theorem eB (m:Mode) (l:List wR) (i:Nat) (h:i<l.length):(yK m l).getD i []=[.int .i64 (l.getD i default).v,.sl m 1 (wK (l.getD i default).view)]:=by simp [yK,kM,List.getD_eq_getElem?_getD,h]
theorem kL (A:Nat→Prop) (m:Mode) (l:List wR):jL A (yK m l)↔True:=by
 simp only [iff_true]
 induction l with
 | nil=>trivial
 | cons x l ih=>exact ⟨by simp [kM,jX,bnd,eE,yR,gF,uK,bR,gI,dF,bE,xE,aQ,zG,mF,fH,kI],ih⟩
theorem cJ (l:List wR):nbr (yK .own l)↔True:=by
 simp only [iff_true]
 induction l with
 | nil=>trivial
 | cons x l ih=>exact ⟨by simp [kM,nbs,nb,bX,zO,bD,dM,zQ,dJ,gK,eC,eX,aB,rV,cU,fB],ih⟩
theorem kD (m:Mode) :∀(l:List wR),bwR (yK m l)=yK .bw l
 | []=>rfl
 | x::l=>by
  have:=kD m l
  simp only [yK,List.map_cons,bwR] at this⊢
  rw [this]
  simp [kM,bwL,bwC,gH,dU,uW,gN,dP,zJ,bP,aH,eD,zR,oS,hU,lI]
theorem qMw (l:List wR):free (yK .bw l)↔True:=by
 simp only [iff_true]
 intro r hr c hc
 simp only [yK,List.mem_map] at hr
 obtain ⟨x,_,rfl⟩:=hr
 simp [kM] at hc
 rcases hc with rfl | rfl<;>rfl
def yP (m:Mode) (l:List (List wR)):List (List AV):=l.map fun b=>[.sl m 2 (yK m b)]
theorem qWa (m:Mode):yP m []=[]:=rfl
theorem yA (m:Mode) (l:List (List wR)):(yP m l).length=l.length:=by simp [yP]
theorem qEr (m:Mode) (l k:List (List wR)):yP m l++yP m k=yP m (l++k):=by simp [yP]
theorem qKo (m:Mode) (l:List (List wR)) (n:Nat):(yP m l).drop n=yP m (l.drop n):=by simp [yP]
theorem qKm (m:Mode) (l:List (List wR)) (n:Nat):(yP m l).take n=yP m (l.take n):=by simp [yP]
theorem jW (m:Mode) (l:List (List wR)) (i:Nat) (b_:List wR):(yP m l).set i [.sl m 2 (yK m b_)]=yP m (l.set i b_):=by simp [yP]
theorem jM (m:Mode) (l:List (List wR)) (i:Nat) (h:i<l.length):(yP m l).getD i []=[.sl m 2 (yK m (l.getD i []))]:=by simp [yP,List.getD_eq_getElem?_getD,h]
theorem qC9 (A:Nat→Prop) (m:Mode) (l:List (List wR)):jL A (yP m l)↔True:=by
 simp only [iff_true]
 induction l with
 | nil=>trivial
 | cons x l ih=>exact ⟨by simp [jX,bnd,eE,yR,gF,uK,bR,gI,dF,bE,xE,aQ,zG,mF,fH,kI,kL],ih⟩
theorem oP (l:List (List wR)):nbr (yP .own l)↔True:=by
 simp only [iff_true]
 induction l with
 | nil=>trivial
 | cons x l ih=>exact ⟨by simp [nbs,nb,bX,zO,bD,dM,zQ,dJ,gK,eC,eX,aB,rV,cU,fB,cJ],ih⟩
theorem qC8 (m:Mode) :∀(l:List (List wR)),bwR (yP m l)=yP .bw l
 | []=>rfl
 | x::l=>by
  have:=qC8 m l
  simp only [yP,List.map_cons,bwR] at this⊢
  rw [this]
  simp [bwL,bwC,gH,dU,uW,gN,dP,zJ,bP,aH,eD,zR,oS,hU,lI,kD]
theorem qUb (l:List (List wR)):free (yP .bw l)↔True:=by
 simp only [iff_true]
 intro r hr c hc
 simp only [yP,List.mem_map] at hr
 obtain ⟨x,_,rfl⟩:=hr
 simp [] at hc
 rcases hc with rfl<;>rfl
structure uE where
 at_:Int
 regs:List Int
 view:List Int
 st:Int
 deriving DecidableEq,Inhabited
def mC (m:Mode) (x:uE):List AV:=[.int .i64 x.at_,.sl m 1 (wK x.regs),.sl m 1 (wK x.view),.int .i64 x.st]
def cores (m:Mode) (l:List uE):List (List AV):=l.map (mC m)
theorem qU3 (m:Mode):cores m []=[]:=rfl
theorem yY (m:Mode) (l:List uE):(cores m l).length=l.length:=by simp [cores]
theorem qC4 (m:Mode) (l k:List uE):cores m l++cores m k=cores m (l++k):=by simp [cores]
theorem qHg (m:Mode) (l:List uE) (n:Nat):(cores m l).drop n=cores m (l.drop n):=by simp [cores]
theorem qHe (m:Mode) (l:List uE) (n:Nat):(cores m l).take n=cores m (l.take n):=by simp [cores]
theorem qL (m:Mode) (l:List uE) (i:Nat) (at__:Int) (regs_:List Int) (view_:List Int) (st_:Int):(cores m l).set i [.int .i64 at__,.sl m 1 (wK regs_),.sl m 1 (wK view_),.int .i64 st_]=cores m (l.set i ⟨at__,regs_,view_,st_⟩):=by simp [cores,mC]
theorem yL (m:Mode) (l:List uE) (i:Nat) (h:i<l.length):(cores m l).getD i []=[.int .i64 (l.getD i default).at_,.sl m 1 (wK (l.getD i default).regs),.sl m 1 (wK (l.getD i default).view),.int .i64 (l.getD i default).st]:=by simp [cores,mC,List.getD_eq_getElem?_getD,h]
theorem qDf (A:Nat→Prop) (m:Mode) (l:List uE):jL A (cores m l)↔True:=by
 simp only [iff_true]
 induction l with
 | nil=>trivial
 | cons x l ih=>exact ⟨by simp [mC,jX,bnd,eE,yR,gF,uK,bR,gI,dF,bE,xE,aQ,zG,mF,fH,kI,kL,qC9],ih⟩
theorem iF (l:List uE):nbr (cores .own l)↔True:=by
 simp only [iff_true]
 induction l with
 | nil=>trivial
 | cons x l ih=>exact ⟨by simp [mC,nbs,nb,bX,zO,bD,dM,zQ,dJ,gK,eC,eX,aB,rV,cU,fB,cJ,oP],ih⟩
theorem qC3 (m:Mode) :∀(l:List uE),bwR (cores m l)=cores .bw l
 | []=>rfl
 | x::l=>by
  have:=qC3 m l
  simp only [cores,List.map_cons,bwR] at this⊢
  rw [this]
  simp [mC,bwL,bwC,gH,dU,uW,gN,dP,zJ,bP,aH,eD,zR,oS,hU,lI,kD,qC8]
theorem qQq (l:List uE):free (cores .bw l)↔True:=by
 simp only [iff_true]
 intro r hr c hc
 simp only [cores,List.mem_map] at hr
 obtain ⟨x,_,rfl⟩:=hr
 simp [mC] at hc
 rcases hc with rfl | rfl | rfl | rfl<;>rfl
structure bB where
 who:Int
 late:Int
 deriving DecidableEq,Inhabited
def iU (x:bB):List AV:=[.int .i64 x.who,.int .i64 x.late]
def eA (l:List bB):List (List AV):=l.map iU
theorem qV3:eA []=[]:=rfl
theorem pR (l:List bB):(eA l).length=l.length:=by simp [eA]
theorem qNu (l k:List bB):eA l++eA k=eA (l++k):=by simp [eA]
theorem qJw (l:List bB) (n:Nat):(eA l).drop n=eA (l.drop n):=by simp [eA]
theorem qJu (l:List bB) (n:Nat):(eA l).take n=eA (l.take n):=by simp [eA]
theorem qV2 (l:List bB) (i:Nat) (who_:Int) (late_:Int):(eA l).set i [.int .i64 who_,.int .i64 late_]=eA (l.set i ⟨who_,late_⟩):=by simp [eA,iU]
theorem qJv (l:List bB) (i:Nat) (h:i<l.length):(eA l).getD i []=[.int .i64 (l.getD i default).who,.int .i64 (l.getD i default).late]:=by simp [eA,iU,List.getD_eq_getElem?_getD,h]
theorem qNt (A:Nat→Prop) (l:List bB):jL A (eA l)↔True:=by
 simp only [iff_true]
 induction l with
 | nil=>trivial
 | cons x l ih=>exact ⟨by simp [iU,jX,bnd,eE,yR,gF,uK,bR,gI,dF,bE,xE,aQ,zG,mF,fH,kI,kL,qC9,qDf],ih⟩
theorem qRu (l:List bB):nbr (eA l)↔True:=by
 simp only [iff_true]
 induction l with
 | nil=>trivial
 | cons x l ih=>exact ⟨by simp [iU,nbs,nb,bX,zO,bD,dM,zQ,dJ,gK,eC,eX,aB,rV,cU,fB,cJ,oP,iF],ih⟩
theorem qLn :∀(l:List bB),bwR (eA l)=eA l
 | []=>rfl
 | x::l=>by
  have:=qLn l
  simp only [eA,List.map_cons,bwR] at this⊢
  rw [this]
  simp [iU,bwL,bwC,gH,dU,uW,gN,dP,zJ,bP,aH,eD,zR,oS,hU,lI,kD,qC8,qC3]
theorem qT3 (l:List bB):free (eA l)↔True:=by
 simp only [iff_true]
 intro r hr c hc
 simp only [eA,List.mem_map] at hr
 obtain ⟨x,_,rfl⟩:=hr
 simp [iU] at hc
 rcases hc with rfl | rfl<;>rfl
structure iS where
 cells:List (List wR)
 deriving DecidableEq,Inhabited
def vV (m:Mode) (x:iS):List AV:=[.sl m 1 (yP m x.cells)]
def vR (m:Mode) (l:List iS):List (List AV):=l.map (vV m)
theorem qLu (m:Mode):vR m []=[]:=rfl
theorem iM (m:Mode) (l:List iS):(vR m l).length=l.length:=by simp [vR]
theorem qEz (m:Mode) (l k:List iS):vR m l++vR m k=vR m (l++k):=by simp [vR]
theorem tP (m:Mode) (l:List iS) (n:Nat):(vR m l).drop n=vR m (l.drop n):=by simp [vR]
theorem tO (m:Mode) (l:List iS) (n:Nat):(vR m l).take n=vR m (l.take n):=by simp [vR]
theorem qLt (m:Mode) (l:List iS) (i:Nat) (cells_:List (List wR)):(vR m l).set i [.sl m 1 (yP m cells_)]=vR m (l.set i ⟨cells_⟩):=by simp [vR,vV]
theorem qLv (A:Nat→Prop) (m:Mode) (l:List iS):jL A (vR m l)↔True:=by
 simp only [iff_true]
 induction l with
 | nil=>trivial
 | cons x l ih=>exact ⟨by simp [vV,jX,bnd,eE,yR,gF,uK,bR,gI,dF,bE,xE,aQ,zG,mF,fH,kI,kL,qC9,qDf,qNt],ih⟩
theorem qO4 (l:List iS):nbr (vR .own l)↔True:=by
 simp only [iff_true]
 induction l with
 | nil=>trivial
 | cons x l ih=>exact ⟨by simp [vV,nbs,nb,bX,zO,bD,dM,zQ,dJ,gK,eC,eX,aB,rV,cU,fB,cJ,oP,iF,qRu],ih⟩
theorem qE6 (m:Mode) :∀(l:List iS),bwR (vR m l)=vR .bw l
 | []=>rfl
 | x::l=>by
  have:=qE6 m l
  simp only [vR,List.map_cons,bwR] at this⊢
  rw [this]
  simp [vV,bwL,bwC,gH,dU,uW,gN,dP,zJ,bP,aH,eD,zR,oS,hU,lI,kD,qC8,qC3,qLn]
theorem qIq (l:List iS):free (vR .bw l)↔True:=by
 simp only [iff_true]
 intro r hr c hc
 simp only [vR,List.mem_map] at hr
 obtain ⟨x,_,rfl⟩:=hr
 simp [vV] at hc
 rcases hc with rfl<;>rfl
structure qK where
 codes:List (List yC)
 cores:List uE
 mem:iS
 tr:List xO
 deriving DecidableEq,Inhabited
def qN (m:Mode) (x:qK):List AV:=[.sl m 1 (codes m x.codes),.sl m 4 (cores m x.cores),.sl m 1 (yP m x.mem.cells),.sl m 2 (jG x.tr)]
theorem fS2:((∀l,(wQ l).length=l.length)∧(∀m l,(codes m l).length=l.length)∧(∀m l,(yK m l).length=l.length)∧(∀m l,(yP m l).length=l.length)∧(∀m l,(cores m l).length=l.length)∧(∀l,(eA l).length=l.length)∧(∀m l,(vR m l).length=l.length)):=⟨by intros; simp [iX],by intros; simp [uT],by intros; simp [eT],by intros; simp [yA],by intros; simp [yY],by intros; simp [pR],by intros; simp [iM]⟩
attribute [go_sem] iX qL6 tZ qFs qSn jZ uT qC5 qHl qHi qDg eT tH qDt qDr qPg kM yA qEr qKo qKm jW yY qC4 qHg qHe qL mC pR qNu qJw qJu qV2 iU iM qEz tP tO qLt vV qN
attribute [simp] qSp hU fH cU iX qFs tZ qPn qU6 lI kI fB uT qHi qHl qQu qPj kD kL cJ eT qDr qDt qMw qWa qC8 qC9 oP yA qKm qKo qUb qU3 qC3 qDf iF yY qHe qHg qQq qV3 qLn qNt qRu pR qJu qJw qT3 qLu qE6 qLv qO4 iM tO tP qIq jZ kM mC iU vV qN
end Go.Sep
