/- Contracts of functions. -/
import Derived.Test.YtebbppogicgpkaaGreatSxx0
namespace Go.Sep
set_option maxHeartbeats 16000000
open Go.Proofs
set_option linter.unusedSimpArgs false
set_option linter.unusedVariables false
set_option maxRecDepth 100000
structure yK where
 op:Int
 r:Int
 a:Int
 b:Int
 n:Int
 deriving DecidableEq,Inhabited
def bD (x:yK):List AV:=[.int .i64 x.op,.int .i64 x.r,.int .i64 x.a,.int .i64 x.b,.int .i64 x.n]
def yH (l:List yK):List (List AV):=l.map bD
theorem qVy:yH []=[]:=rfl
theorem rP (l:List yK):(yH l).length=l.length:=by simp [yH]
theorem jJ (l k:List yK):yH l++yH k=yH (l++k):=by simp [yH]
theorem zL (op_:Int) (r_:Int) (a_:Int) (b_:Int) (n_:Int):[[.int .i64 op_,.int .i64 r_,.int .i64 a_,.int .i64 b_,.int .i64 n_]]=yH [⟨op_,r_,a_,b_,n_⟩]:=rfl
theorem qI5 (l:List yK) (n:Nat):(yH l).drop n=yH (l.drop n):=by simp [yH]
theorem qI4 (l:List yK) (n:Nat):(yH l).take n=yH (l.take n):=by simp [yH]
theorem qVw (l:List yK) (i:Nat) (op_:Int) (r_:Int) (a_:Int) (b_:Int) (n_:Int):(yH l).set i [.int .i64 op_,.int .i64 r_,.int .i64 a_,.int .i64 b_,.int .i64 n_]=yH (l.set i ⟨op_,r_,a_,b_,n_⟩):=by simp [yH,bD]
theorem aY (l:List yK) (i:Nat) (h:i<l.length):(yH l).getD i []=[.int .i64 (l.getD i default).op,.int .i64 (l.getD i default).r,.int .i64 (l.getD i default).a,.int .i64 (l.getD i default).b,.int .i64 (l.getD i default).n]:=by simp [yH,bD,List.getD_eq_getElem?_getD,h]
theorem iU (A:Nat→Prop) (l:List yK):jT A (yH l)↔True:=by
 simp only [iff_true]
 induction l with
 | nil=>trivial
 | cons x l ih=>exact ⟨by simp [bD,vK,bnd,aX,yT,dM,uW,gZ,dT,zM,gL,aO,eN,xV,oH],ih⟩
theorem iC (l:List yK):nbr (yH l)↔True:=by
 simp only [iff_true]
 induction l with
 | nil=>trivial
 | cons x l ih=>exact ⟨by simp [bD,nbs,nb,bR,aC,gJ,zS,aE,zQ,dU,eZ,fM,aZ,qAo],ih⟩
theorem kW :∀(l:List yK),bwR (yH l)=yH l
 | []=>rfl
 | x::l=>by
  have:=kW l
  simp only [yH,List.map_cons,bwR] at this⊢
  rw [this]
  simp [bD,bwL,bwC,gA,xC,bP,dY,zV,xZ,gX,eF,cD,aG,sU]
theorem qSl (l:List yK):free (yH l)↔True:=by
 simp only [iff_true]
 intro r hr c hc
 simp only [yH,List.mem_map] at hr
 obtain ⟨x,_,rfl⟩:=hr
 simp [bD] at hc
 rcases hc with rfl | rfl | rfl | rfl | rfl<;>rfl
def codes (m:Mode) (l:List (List yK)):List (List AV):=l.map fun b=>[.sl m 5 (yH b)]
theorem qXc (m:Mode):codes m []=[]:=rfl
theorem gC (m:Mode) (l:List (List yK)):(codes m l).length=l.length:=by simp [codes]
theorem qEh (m:Mode) (l k:List (List yK)):codes m l++codes m k=codes m (l++k):=by simp [codes]
theorem qKp (m:Mode) (l:List (List yK)) (n:Nat):(codes m l).drop n=codes m (l.drop n):=by simp [codes]
theorem qKn (m:Mode) (l:List (List yK)) (n:Nat):(codes m l).take n=codes m (l.take n):=by simp [codes]
theorem qXa (m:Mode) (l:List (List yK)) (i:Nat) (b_:List yK):(codes m l).set i [.sl m 5 (yH b_)]=codes m (l.set i b_):=by simp [codes]
theorem aJ (m:Mode) (l:List (List yK)) (i:Nat) (h:i<l.length):(codes m l).getD i []=[.sl m 5 (yH (l.getD i []))]:=by simp [codes,List.getD_eq_getElem?_getD,h]
theorem mI (A:Nat→Prop) (m:Mode) (l:List (List yK)):jT A (codes m l)↔True:=by
 simp only [iff_true]
 induction l with
 | nil=>trivial
 | cons x l ih=>exact ⟨by simp [vK,bnd,aX,yT,dM,uW,gZ,dT,zM,gL,aO,eN,xV,oH,iU],ih⟩
theorem iL (l:List (List yK)):nbr (codes .own l)↔True:=by
 simp only [iff_true]
 induction l with
 | nil=>trivial
 | cons x l ih=>exact ⟨by simp [nbs,nb,bR,aC,gJ,zS,aE,zQ,dU,eZ,fM,aZ,qAo,iC],ih⟩
theorem nJ (m:Mode) :∀(l:List (List yK)),bwR (codes m l)=codes .bw l
 | []=>rfl
 | x::l=>by
  have:=nJ m l
  simp only [codes,List.map_cons,bwR] at this⊢
  rw [this]
  simp [bwL,bwC,gA,xC,bP,dY,zV,xZ,gX,eF,cD,aG,sU,kW]
theorem qTv (l:List (List yK)):free (codes .bw l)↔True:=by
 simp only [iff_true]
 intro r hr c hc
 simp only [codes,List.mem_map] at hr
 obtain ⟨x,_,rfl⟩:=hr
 simp [] at hc
 rcases hc with rfl<;>rfl
structure wY where
 v:Int
 view:List Int
 deriving DecidableEq,Inhabited
def mM (m:Mode) (x:wY):List AV:=[.int .i64 x.v,.sl m 1 (wN x.view)]
def yX (m:Mode) (l:List wY):List (List AV):=l.map (mM m)
theorem qSb (m:Mode):yX m []=[]:=rfl
theorem fI (m:Mode) (l:List wY):(yX m l).length=l.length:=by simp [yX]
theorem qBk (m:Mode) (l k:List wY):yX m l++yX m k=yX m (l++k):=by simp [yX]
theorem qG9 (m:Mode) (l:List wY) (n:Nat):(yX m l).drop n=yX m (l.drop n):=by simp [yX]
theorem qG8 (m:Mode) (l:List wY) (n:Nat):(yX m l).take n=yX m (l.take n):=by simp [yX]
theorem qS8 (m:Mode) (l:List wY) (i:Nat) (v_:Int) (view_:List Int):(yX m l).set i [.int .i64 v_,.sl m 1 (wN view_)]=yX m (l.set i ⟨v_,view_⟩):=by simp [yX,mM]
theorem eY (m:Mode) (l:List wY) (i:Nat) (h:i<l.length):(yX m l).getD i []=[.int .i64 (l.getD i default).v,.sl m 1 (wN (l.getD i default).view)]:=by simp [yX,mM,List.getD_eq_getElem?_getD,h]
theorem mL (A:Nat→Prop) (m:Mode) (l:List wY):jT A (yX m l)↔True:=by
 simp only [iff_true]
 induction l with
 | nil=>trivial
 | cons x l ih=>exact ⟨by simp [mM,vK,bnd,aX,yT,dM,uW,gZ,dT,zM,gL,aO,eN,xV,oH,iU,mI],ih⟩
theorem fY (l:List wY):nbr (yX .own l)↔True:=by
 simp only [iff_true]
 induction l with
 | nil=>trivial
 | cons x l ih=>exact ⟨by simp [mM,nbs,nb,bR,aC,gJ,zS,aE,zQ,dU,eZ,fM,aZ,qAo,iC,iL],ih⟩
theorem mE (m:Mode) :∀(l:List wY),bwR (yX m l)=yX .bw l
 | []=>rfl
 | x::l=>by
  have:=mE m l
  simp only [yX,List.map_cons,bwR] at this⊢
  rw [this]
  simp [mM,bwL,bwC,gA,xC,bP,dY,zV,xZ,gX,eF,cD,aG,sU,kW,nJ]
theorem qPn (l:List wY):free (yX .bw l)↔True:=by
 simp only [iff_true]
 intro r hr c hc
 simp only [yX,List.mem_map] at hr
 obtain ⟨x,_,rfl⟩:=hr
 simp [mM] at hc
 rcases hc with rfl | rfl<;>rfl
def jC (m:Mode) (l:List (List wY)):List (List AV):=l.map fun b=>[.sl m 2 (yX m b)]
theorem qZi (m:Mode):jC m []=[]:=rfl
theorem yF (m:Mode) (l:List (List wY)):(jC m l).length=l.length:=by simp [jC]
theorem qGz (m:Mode) (l k:List (List wY)):jC m l++jC m k=jC m (l++k):=by simp [jC]
theorem qNj (m:Mode) (l:List (List wY)) (n:Nat):(jC m l).drop n=jC m (l.drop n):=by simp [jC]
theorem qNi (m:Mode) (l:List (List wY)) (n:Nat):(jC m l).take n=jC m (l.take n):=by simp [jC]
theorem vP (m:Mode) (l:List (List wY)) (i:Nat) (b_:List wY):(jC m l).set i [.sl m 2 (yX m b_)]=jC m (l.set i b_):=by simp [jC]
theorem vE (m:Mode) (l:List (List wY)) (i:Nat) (h:i<l.length):(jC m l).getD i []=[.sl m 2 (yX m (l.getD i []))]:=by simp [jC,List.getD_eq_getElem?_getD,h]
theorem qEl (A:Nat→Prop) (m:Mode) (l:List (List wY)):jT A (jC m l)↔True:=by
 simp only [iff_true]
 induction l with
 | nil=>trivial
 | cons x l ih=>exact ⟨by simp [vK,bnd,aX,yT,dM,uW,gZ,dT,zM,gL,aO,eN,xV,oH,iU,mI,mL],ih⟩
theorem sR (l:List (List wY)):nbr (jC .own l)↔True:=by
 simp only [iff_true]
 induction l with
 | nil=>trivial
 | cons x l ih=>exact ⟨by simp [nbs,nb,bR,aC,gJ,zS,aE,zQ,dU,eZ,fM,aZ,qAo,iC,iL,fY],ih⟩
theorem qEk (m:Mode) :∀(l:List (List wY)),bwR (jC m l)=jC .bw l
 | []=>rfl
 | x::l=>by
  have:=qEk m l
  simp only [jC,List.map_cons,bwR] at this⊢
  rw [this]
  simp [bwL,bwC,gA,xC,bP,dY,zV,xZ,gX,eF,cD,aG,sU,kW,nJ,mE]
theorem qXi (l:List (List wY)):free (jC .bw l)↔True:=by
 simp only [iff_true]
 intro r hr c hc
 simp only [jC,List.mem_map] at hr
 obtain ⟨x,_,rfl⟩:=hr
 simp [] at hc
 rcases hc with rfl<;>rfl
structure uS where
 at_:Int
 regs:List Int
 view:List Int
 st:Int
 deriving DecidableEq,Inhabited
def oD (m:Mode) (x:uS):List AV:=[.int .i64 x.at_,.sl m 1 (wN x.regs),.sl m 1 (wN x.view),.int .i64 x.st]
def cores (m:Mode) (l:List uS):List (List AV):=l.map (oD m)
theorem qX8 (m:Mode):cores m []=[]:=rfl
theorem jO (m:Mode) (l:List uS):(cores m l).length=l.length:=by simp [cores]
theorem qEf (m:Mode) (l k:List uS):cores m l++cores m k=cores m (l++k):=by simp [cores]
theorem qKk (m:Mode) (l:List uS) (n:Nat):(cores m l).drop n=cores m (l.drop n):=by simp [cores]
theorem qKj (m:Mode) (l:List uS) (n:Nat):(cores m l).take n=cores m (l.take n):=by simp [cores]
theorem qM (m:Mode) (l:List uS) (i:Nat) (at__:Int) (regs_:List Int) (view_:List Int) (st_:Int):(cores m l).set i [.int .i64 at__,.sl m 1 (wN regs_),.sl m 1 (wN view_),.int .i64 st_]=cores m (l.set i ⟨at__,regs_,view_,st_⟩):=by simp [cores,oD]
theorem jR (m:Mode) (l:List uS) (i:Nat) (h:i<l.length):(cores m l).getD i []=[.int .i64 (l.getD i default).at_,.sl m 1 (wN (l.getD i default).regs),.sl m 1 (wN (l.getD i default).view),.int .i64 (l.getD i default).st]:=by simp [cores,oD,List.getD_eq_getElem?_getD,h]
theorem qFy (A:Nat→Prop) (m:Mode) (l:List uS):jT A (cores m l)↔True:=by
 simp only [iff_true]
 induction l with
 | nil=>trivial
 | cons x l ih=>exact ⟨by simp [oD,vK,bnd,aX,yT,dM,uW,gZ,dT,zM,gL,aO,eN,xV,oH,iU,mI,mL,qEl],ih⟩
theorem lH (l:List uS):nbr (cores .own l)↔True:=by
 simp only [iff_true]
 induction l with
 | nil=>trivial
 | cons x l ih=>exact ⟨by simp [oD,nbs,nb,bR,aC,gJ,zS,aE,zQ,dU,eZ,fM,aZ,qAo,iC,iL,fY,sR],ih⟩
theorem qEe (m:Mode) :∀(l:List uS),bwR (cores m l)=cores .bw l
 | []=>rfl
 | x::l=>by
  have:=qEe m l
  simp only [cores,List.map_cons,bwR] at this⊢
  rw [this]
  simp [oD,bwL,bwC,gA,xC,bP,dY,zV,xZ,gX,eF,cD,aG,sU,kW,nJ,mE,qEk]
theorem qTr (l:List uS):free (cores .bw l)↔True:=by
 simp only [iff_true]
 intro r hr c hc
 simp only [cores,List.mem_map] at hr
 obtain ⟨x,_,rfl⟩:=hr
 simp [oD] at hc
 rcases hc with rfl | rfl | rfl | rfl<;>rfl
structure vD where
 who:Int
 late:Int
 deriving DecidableEq,Inhabited
def cY (x:vD):List AV:=[.int .i64 x.who,.int .i64 x.late]
def uZ (l:List vD):List (List AV):=l.map cY
theorem qYh:uZ []=[]:=rfl
theorem tV (l:List vD):(uZ l).length=l.length:=by simp [uZ]
theorem qQg (l k:List vD):uZ l++uZ k=uZ (l++k):=by simp [uZ]
theorem qMu (l:List vD) (n:Nat):(uZ l).drop n=uZ (l.drop n):=by simp [uZ]
theorem qMt (l:List vD) (n:Nat):(uZ l).take n=uZ (l.take n):=by simp [uZ]
theorem qYf (l:List vD) (i:Nat) (who_:Int) (late_:Int):(uZ l).set i [.int .i64 who_,.int .i64 late_]=uZ (l.set i ⟨who_,late_⟩):=by simp [uZ,cY]
theorem hO (l:List vD) (i:Nat) (h:i<l.length):(uZ l).getD i []=[.int .i64 (l.getD i default).who,.int .i64 (l.getD i default).late]:=by simp [uZ,cY,List.getD_eq_getElem?_getD,h]
theorem qQf (A:Nat→Prop) (l:List vD):jT A (uZ l)↔True:=by
 simp only [iff_true]
 induction l with
 | nil=>trivial
 | cons x l ih=>exact ⟨by simp [cY,vK,bnd,aX,yT,dM,uW,gZ,dT,zM,gL,aO,eN,xV,oH,iU,mI,mL,qEl,qFy],ih⟩
theorem qV1 (l:List vD):nbr (uZ l)↔True:=by
 simp only [iff_true]
 induction l with
 | nil=>trivial
 | cons x l ih=>exact ⟨by simp [cY,nbs,nb,bR,aC,gJ,zS,aE,zQ,dU,eZ,fM,aZ,qAo,iC,iL,fY,sR,lH],ih⟩
theorem qOi :∀(l:List vD),bwR (uZ l)=uZ l
 | []=>rfl
 | x::l=>by
  have:=qOi l
  simp only [uZ,List.map_cons,bwR] at this⊢
  rw [this]
  simp [cY,bwL,bwC,gA,xC,bP,dY,zV,xZ,gX,eF,cD,aG,sU,kW,nJ,mE,qEk,qEe]
theorem qWc (l:List vD):free (uZ l)↔True:=by
 simp only [iff_true]
 intro r hr c hc
 simp only [uZ,List.mem_map] at hr
 obtain ⟨x,_,rfl⟩:=hr
 simp [cY] at hc
 rcases hc with rfl | rfl<;>rfl
structure lT where
 cells:List (List wY)
 deriving DecidableEq,Inhabited
def uD (m:Mode) (x:lT):List AV:=[.sl m 1 (jC m x.cells)]
def uI (m:Mode) (l:List lT):List (List AV):=l.map (uD m)
theorem qOp (m:Mode):uI m []=[]:=rfl
theorem lO (m:Mode) (l:List lT):(uI m l).length=l.length:=by simp [uI]
theorem qH6 (m:Mode) (l k:List lT):uI m l++uI m k=uI m (l++k):=by simp [uI]
theorem qBt (m:Mode) (l:List lT) (n:Nat):(uI m l).drop n=uI m (l.drop n):=by simp [uI]
theorem qBs (m:Mode) (l:List lT) (n:Nat):(uI m l).take n=uI m (l.take n):=by simp [uI]
theorem qOo (m:Mode) (l:List lT) (i:Nat) (cells_:List (List wY)):(uI m l).set i [.sl m 1 (jC m cells_)]=uI m (l.set i ⟨cells_⟩):=by simp [uI,uD]
theorem qOq (A:Nat→Prop) (m:Mode) (l:List lT):jT A (uI m l)↔True:=by
 simp only [iff_true]
 induction l with
 | nil=>trivial
 | cons x l ih=>exact ⟨by simp [uD,vK,bnd,aX,yT,dM,uW,gZ,dT,zM,gL,aO,eN,xV,oH,iU,mI,mL,qEl,qFy,qQf],ih⟩
theorem qQs (l:List lT):nbr (uI .own l)↔True:=by
 simp only [iff_true]
 induction l with
 | nil=>trivial
 | cons x l ih=>exact ⟨by simp [uD,nbs,nb,bR,aC,gJ,zS,aE,zQ,dU,eZ,fM,aZ,qAo,iC,iL,fY,sR,lH,qV1],ih⟩
theorem qGm (m:Mode) :∀(l:List lT),bwR (uI m l)=uI .bw l
 | []=>rfl
 | x::l=>by
  have:=qGm m l
  simp only [uI,List.map_cons,bwR] at this⊢
  rw [this]
  simp [uD,bwL,bwC,gA,xC,bP,dY,zV,xZ,gX,eF,cD,aG,sU,kW,nJ,mE,qEk,qEe,qOi]
theorem qLq (l:List lT):free (uI .bw l)↔True:=by
 simp only [iff_true]
 intro r hr c hc
 simp only [uI,List.mem_map] at hr
 obtain ⟨x,_,rfl⟩:=hr
 simp [uD] at hc
 rcases hc with rfl<;>rfl
structure qO where
 codes:List (List yK)
 cores:List uS
 mem:lT
 tr:List xJ
 deriving DecidableEq,Inhabited
def qR (m:Mode) (x:qO):List AV:=[.sl m 1 (codes m x.codes),.sl m 4 (cores m x.cores),.sl m 1 (jC m x.mem.cells),.sl m 2 (jK x.tr)]
structure Em where
 list:List yK
 from_:Int
 base:Int
 room:Int
 deriving Inhabited
def emC (m:Mode) (x:Em):List AV:=[.sl m 5 (yH x.list),.int .i64 x.from_,.int .i64 x.base,.int .i64 x.room]
theorem fS2:((∀l,(yH l).length=l.length)∧(∀m l,(codes m l).length=l.length)∧(∀m l,(yX m l).length=l.length)∧(∀m l,(jC m l).length=l.length)∧(∀m l,(cores m l).length=l.length)∧(∀l,(uZ l).length=l.length)∧(∀m l,(uI m l).length=l.length)):=⟨by intros; simp [rP],by intros; simp [gC],by intros; simp [fI],by intros; simp [yF],by intros; simp [jO],by intros; simp [tV],by intros; simp [lO]⟩
attribute [go_sem] rP jJ qI5 qI4 qVw bD gC qEh qKp qKn qXa fI qBk qG9 qG8 qS8 mM yF qGz qNj qNi vP jO qEf qKk qKj qM oD tV qQg qMu qMt qYf cY lO qH6 qBt qBs qOo uD qR emC
attribute [simp] qVy kW iU iC rP qI4 qI5 qSl qXc nJ mI iL gC qKn qKp qTv qSb mE mL fY fI qG8 qG9 qPn qZi qEk qEl sR yF qNi qNj qXi qX8 qEe qFy lH jO qKj qKk qTr qYh qOi qQf qV1 tV qMt qMu qWc qOp qGm qOq qQs lO qBs qBt qLq bD mM oD cY uD qR emC
end Go.Sep
