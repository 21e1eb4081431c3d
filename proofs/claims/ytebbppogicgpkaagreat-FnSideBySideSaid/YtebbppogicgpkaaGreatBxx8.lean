/- Contracts of functions. -/
import Derived.Test.YtebbppogicgpkaaGreatBxx0
namespace Go.Sep
set_option maxHeartbeats 16000000
open Go.Proofs
set_option linter.unusedSimpArgs false
set_option linter.unusedVariables false
set_option maxRecDepth 100000
structure yC where
 op:Int
 r:Int
 a:Int
 b:Int
 n:Int
 deriving DecidableEq,Inhabited
def bP (x:yC):List AV:=[.int .i64 x.op,.int .i64 x.r,.int .i64 x.a,.int .i64 x.b,.int .i64 x.n]
def yO (l:List yC):List (List AV):=l.map bP
theorem qRu:yO []=[]:=rfl
theorem oX (l:List yC):(yO l).length=l.length:=by simp [yO]
theorem jA (l k:List yC):yO l++yO k=yO (l++k):=by simp [yO]
theorem dZ (op_:Int) (r_:Int) (a_:Int) (b_:Int) (n_:Int):[[.int .i64 op_,.int .i64 r_,.int .i64 a_,.int .i64 b_,.int .i64 n_]]=yO [⟨op_,r_,a_,b_,n_⟩]:=rfl
theorem qFj (l:List yC) (n:Nat):(yO l).drop n=yO (l.drop n):=by simp [yO]
theorem qFi (l:List yC) (n:Nat):(yO l).take n=yO (l.take n):=by simp [yO]
theorem qRs (l:List yC) (i:Nat) (op_:Int) (r_:Int) (a_:Int) (b_:Int) (n_:Int):(yO l).set i [.int .i64 op_,.int .i64 r_,.int .i64 a_,.int .i64 b_,.int .i64 n_]=yO (l.set i ⟨op_,r_,a_,b_,n_⟩):=by simp [yO,bP]
theorem cV (l:List yC) (i:Nat) (h:i<l.length):(yO l).getD i []=[.int .i64 (l.getD i default).op,.int .i64 (l.getD i default).r,.int .i64 (l.getD i default).a,.int .i64 (l.getD i default).b,.int .i64 (l.getD i default).n]:=by simp [yO,bP,List.getD_eq_getElem?_getD,h]
theorem iB (A:Nat→Prop) (l:List yC):jW A (yO l)↔True:=by
 simp only [iff_true]
 induction l with
 | nil=>trivial
 | cons x l ih=>exact ⟨by simp [bP,vN,bnd,eT,vH,gZ,uZ,gN,dD,zA,gA,aH,eD,xK,nF],ih⟩
theorem fR (l:List yC):nbr (yO l)↔True:=by
 simp only [iff_true]
 induction l with
 | nil=>trivial
 | cons x l ih=>exact ⟨by simp [bP,nbs,nb,gT,xR,bZ,zJ,xW,zG,dG,eQ,cR,aO,sX],ih⟩
theorem iV :∀(l:List yC),bwR (yO l)=yO l
 | []=>rfl
 | x::l=>by
  have:=iV l
  simp only [yO,List.map_cons,bwR] at this⊢
  rw [this]
  simp [bP,bwL,bwC,dC,zT,bM,dL,zL,xO,gL,aU,eS,xZ,pX]
theorem qOs (l:List yC):free (yO l)↔True:=by
 simp only [iff_true]
 intro r hr c hc
 simp only [yO,List.mem_map] at hr
 obtain ⟨x,_,rfl⟩:=hr
 simp [bP] at hc
 rcases hc with rfl | rfl | rfl | rfl | rfl<;>rfl
def codes (m:Mode) (l:List (List yC)):List (List AV):=l.map fun b=>[.sl m 5 (yO b)]
theorem qTb (m:Mode):codes m []=[]:=rfl
theorem xV (m:Mode) (l:List (List yC)):(codes m l).length=l.length:=by simp [codes]
theorem qCc (m:Mode) (l k:List (List yC)):codes m l++codes m k=codes m (l++k):=by simp [codes]
theorem qHi (m:Mode) (l:List (List yC)) (n:Nat):(codes m l).drop n=codes m (l.drop n):=by simp [codes]
theorem qHg (m:Mode) (l:List (List yC)) (n:Nat):(codes m l).take n=codes m (l.take n):=by simp [codes]
theorem qT9 (m:Mode) (l:List (List yC)) (i:Nat) (b_:List yC):(codes m l).set i [.sl m 5 (yO b_)]=codes m (l.set i b_):=by simp [codes]
theorem fB (m:Mode) (l:List (List yC)) (i:Nat) (h:i<l.length):(codes m l).getD i []=[.sl m 5 (yO (l.getD i []))]:=by simp [codes,List.getD_eq_getElem?_getD,h]
theorem lN (A:Nat→Prop) (m:Mode) (l:List (List yC)):jW A (codes m l)↔True:=by
 simp only [iff_true]
 induction l with
 | nil=>trivial
 | cons x l ih=>exact ⟨by simp [vN,bnd,eT,vH,gZ,uZ,gN,dD,zA,gA,aH,eD,xK,nF,iB],ih⟩
theorem hU (l:List (List yC)):nbr (codes .own l)↔True:=by
 simp only [iff_true]
 induction l with
 | nil=>trivial
 | cons x l ih=>exact ⟨by simp [nbs,nb,gT,xR,bZ,zJ,xW,zG,dG,eQ,cR,aO,sX,fR],ih⟩
theorem mG (m:Mode) :∀(l:List (List yC)),bwR (codes m l)=codes .bw l
 | []=>rfl
 | x::l=>by
  have:=mG m l
  simp only [codes,List.map_cons,bwR] at this⊢
  rw [this]
  simp [bwL,bwC,dC,zT,bM,dL,zL,xO,gL,aU,eS,xZ,pX,iV]
theorem qPz (l:List (List yC)):free (codes .bw l)↔True:=by
 simp only [iff_true]
 intro r hr c hc
 simp only [codes,List.mem_map] at hr
 obtain ⟨x,_,rfl⟩:=hr
 simp [] at hc
 rcases hc with rfl<;>rfl
structure wO where
 v:Int
 view:List Int
 deriving DecidableEq,Inhabited
def nL (m:Mode) (x:wO):List AV:=[.int .i64 x.v,.sl m 1 (wT x.view)]
def jH (m:Mode) (l:List wO):List (List AV):=l.map (nL m)
theorem qOo (m:Mode):jH m []=[]:=rfl
theorem nK (m:Mode) (l:List wO):(jH m l).length=l.length:=by simp [jH]
theorem qIb (m:Mode) (l k:List wO):jH m l++jH m k=jH m (l++k):=by simp [jH]
theorem qDz (m:Mode) (l:List wO) (n:Nat):(jH m l).drop n=jH m (l.drop n):=by simp [jH]
theorem qDy (m:Mode) (l:List wO) (n:Nat):(jH m l).take n=jH m (l.take n):=by simp [jH]
theorem qOl (m:Mode) (l:List wO) (i:Nat) (v_:Int) (view_:List Int):(jH m l).set i [.int .i64 v_,.sl m 1 (wT view_)]=jH m (l.set i ⟨v_,view_⟩):=by simp [jH,nL]
theorem iU (m:Mode) (l:List wO) (i:Nat) (h:i<l.length):(jH m l).getD i []=[.int .i64 (l.getD i default).v,.sl m 1 (wT (l.getD i default).view)]:=by simp [jH,nL,List.getD_eq_getElem?_getD,h]
theorem lQ (A:Nat→Prop) (m:Mode) (l:List wO):jW A (jH m l)↔True:=by
 simp only [iff_true]
 induction l with
 | nil=>trivial
 | cons x l ih=>exact ⟨by simp [nL,vN,bnd,eT,vH,gZ,uZ,gN,dD,zA,gA,aH,eD,xK,nF,iB,lN],ih⟩
theorem fE (l:List wO):nbr (jH .own l)↔True:=by
 simp only [iff_true]
 induction l with
 | nil=>trivial
 | cons x l ih=>exact ⟨by simp [nL,nbs,nb,gT,xR,bZ,zJ,xW,zG,dG,eQ,cR,aO,sX,fR,hU],ih⟩
theorem lI (m:Mode) :∀(l:List wO),bwR (jH m l)=jH .bw l
 | []=>rfl
 | x::l=>by
  have:=lI m l
  simp only [jH,List.map_cons,bwR] at this⊢
  rw [this]
  simp [nL,bwL,bwC,dC,zT,bM,dL,zL,xO,gL,aU,eS,xZ,pX,iV,mG]
theorem qMa (l:List wO):free (jH .bw l)↔True:=by
 simp only [iff_true]
 intro r hr c hc
 simp only [jH,List.mem_map] at hr
 obtain ⟨x,_,rfl⟩:=hr
 simp [nL] at hc
 rcases hc with rfl | rfl<;>rfl
def jO (m:Mode) (l:List (List wO)):List (List AV):=l.map fun b=>[.sl m 2 (jH m b)]
theorem qVg (m:Mode):jO m []=[]:=rfl
theorem yG (m:Mode) (l:List (List wO)):(jO m l).length=l.length:=by simp [jO]
theorem qO6 (m:Mode) (l k:List (List wO)):jO m l++jO m k=jO m (l++k):=by simp [jO]
theorem qKd (m:Mode) (l:List (List wO)) (n:Nat):(jO m l).drop n=jO m (l.drop n):=by simp [jO]
theorem qKc (m:Mode) (l:List (List wO)) (n:Nat):(jO m l).take n=jO m (l.take n):=by simp [jO]
theorem uE (m:Mode) (l:List (List wO)) (i:Nat) (b_:List wO):(jO m l).set i [.sl m 2 (jH m b_)]=jO m (l.set i b_):=by simp [jO]
theorem vY (m:Mode) (l:List (List wO)) (i:Nat) (h:i<l.length):(jO m l).getD i []=[.sl m 2 (jH m (l.getD i []))]:=by simp [jO,List.getD_eq_getElem?_getD,h]
theorem qCg (A:Nat→Prop) (m:Mode) (l:List (List wO)):jW A (jO m l)↔True:=by
 simp only [iff_true]
 induction l with
 | nil=>trivial
 | cons x l ih=>exact ⟨by simp [vN,bnd,eT,vH,gZ,uZ,gN,dD,zA,gA,aH,eD,xK,nF,iB,lN,lQ],ih⟩
theorem pU (l:List (List wO)):nbr (jO .own l)↔True:=by
 simp only [iff_true]
 induction l with
 | nil=>trivial
 | cons x l ih=>exact ⟨by simp [nbs,nb,gT,xR,bZ,zJ,xW,zG,dG,eQ,cR,aO,sX,fR,hU,fE],ih⟩
theorem qCf (m:Mode) :∀(l:List (List wO)),bwR (jO m l)=jO .bw l
 | []=>rfl
 | x::l=>by
  have:=qCf m l
  simp only [jO,List.map_cons,bwR] at this⊢
  rw [this]
  simp [bwL,bwC,dC,zT,bM,dL,zL,xO,gL,aU,eS,xZ,pX,iV,mG,lI]
theorem qTe (l:List (List wO)):free (jO .bw l)↔True:=by
 simp only [iff_true]
 intro r hr c hc
 simp only [jO,List.mem_map] at hr
 obtain ⟨x,_,rfl⟩:=hr
 simp [] at hc
 rcases hc with rfl<;>rfl
structure bC where
 at_:Int
 regs:List Int
 view:List Int
 st:Int
 deriving DecidableEq,Inhabited
def rL (m:Mode) (x:bC):List AV:=[.int .i64 x.at_,.sl m 1 (wT x.regs),.sl m 1 (wT x.view),.int .i64 x.st]
def cores (m:Mode) (l:List bC):List (List AV):=l.map (rL m)
theorem qT7 (m:Mode):cores m []=[]:=rfl
theorem vA (m:Mode) (l:List bC):(cores m l).length=l.length:=by simp [cores]
theorem qLt (m:Mode) (l k:List bC):cores m l++cores m k=cores m (l++k):=by simp [cores]
theorem qHe (m:Mode) (l:List bC) (n:Nat):(cores m l).drop n=cores m (l.drop n):=by simp [cores]
theorem qHd (m:Mode) (l:List bC) (n:Nat):(cores m l).take n=cores m (l.take n):=by simp [cores]
theorem qY (m:Mode) (l:List bC) (i:Nat) (at__:Int) (regs_:List Int) (view_:List Int) (st_:Int):(cores m l).set i [.int .i64 at__,.sl m 1 (wT regs_),.sl m 1 (wT view_),.int .i64 st_]=cores m (l.set i ⟨at__,regs_,view_,st_⟩):=by simp [cores,rL]
theorem uY (m:Mode) (l:List bC) (i:Nat) (h:i<l.length):(cores m l).getD i []=[.int .i64 (l.getD i default).at_,.sl m 1 (wT (l.getD i default).regs),.sl m 1 (wT (l.getD i default).view),.int .i64 (l.getD i default).st]:=by simp [cores,rL,List.getD_eq_getElem?_getD,h]
theorem qDo (A:Nat→Prop) (m:Mode) (l:List bC):jW A (cores m l)↔True:=by
 simp only [iff_true]
 induction l with
 | nil=>trivial
 | cons x l ih=>exact ⟨by simp [rL,vN,bnd,eT,vH,gZ,uZ,gN,dD,zA,gA,aH,eD,xK,nF,iB,lN,lQ,qCg],ih⟩
theorem oJ (l:List bC):nbr (cores .own l)↔True:=by
 simp only [iff_true]
 induction l with
 | nil=>trivial
 | cons x l ih=>exact ⟨by simp [rL,nbs,nb,gT,xR,bZ,zJ,xW,zG,dG,eQ,cR,aO,sX,fR,hU,fE,pU],ih⟩
theorem qCb (m:Mode) :∀(l:List bC),bwR (cores m l)=cores .bw l
 | []=>rfl
 | x::l=>by
  have:=qCb m l
  simp only [cores,List.map_cons,bwR] at this⊢
  rw [this]
  simp [rL,bwL,bwC,dC,zT,bM,dL,zL,xO,gL,aU,eS,xZ,pX,iV,mG,lI,qCf]
theorem qPw (l:List bC):free (cores .bw l)↔True:=by
 simp only [iff_true]
 intro r hr c hc
 simp only [cores,List.mem_map] at hr
 obtain ⟨x,_,rfl⟩:=hr
 simp [rL] at hc
 rcases hc with rfl | rfl | rfl | rfl<;>rfl
structure dK where
 who:Int
 late:Int
 deriving DecidableEq,Inhabited
def mW (x:dK):List AV:=[.int .i64 x.who,.int .i64 x.late]
def cD (l:List dK):List (List AV):=l.map mW
theorem qU9:cD []=[]:=rfl
theorem sE (l:List dK):(cD l).length=l.length:=by simp [cD]
theorem qMz (l k:List dK):cD l++cD k=cD (l++k):=by simp [cD]
theorem qJi (l:List dK) (n:Nat):(cD l).drop n=cD (l.drop n):=by simp [cD]
theorem qJh (l:List dK) (n:Nat):(cD l).take n=cD (l.take n):=by simp [cD]
theorem qU8 (l:List dK) (i:Nat) (who_:Int) (late_:Int):(cD l).set i [.int .i64 who_,.int .i64 late_]=cD (l.set i ⟨who_,late_⟩):=by simp [cD,mW]
theorem qSa (l:List dK) (i:Nat) (h:i<l.length):(cD l).getD i []=[.int .i64 (l.getD i default).who,.int .i64 (l.getD i default).late]:=by simp [cD,mW,List.getD_eq_getElem?_getD,h]
theorem qMy (A:Nat→Prop) (l:List dK):jW A (cD l)↔True:=by
 simp only [iff_true]
 induction l with
 | nil=>trivial
 | cons x l ih=>exact ⟨by simp [mW,vN,bnd,eT,vH,gZ,uZ,gN,dD,zA,gA,aH,eD,xK,nF,iB,lN,lQ,qCg,qDo],ih⟩
theorem qQy (l:List dK):nbr (cD l)↔True:=by
 simp only [iff_true]
 induction l with
 | nil=>trivial
 | cons x l ih=>exact ⟨by simp [mW,nbs,nb,gT,xR,bZ,zJ,xW,zG,dG,eQ,cR,aO,sX,fR,hU,fE,pU,oJ],ih⟩
theorem qL8 :∀(l:List dK),bwR (cD l)=cD l
 | []=>rfl
 | x::l=>by
  have:=qL8 l
  simp only [cD,List.map_cons,bwR] at this⊢
  rw [this]
  simp [mW,bwL,bwC,dC,zT,bM,dL,zL,xO,gL,aU,eS,xZ,pX,iV,mG,lI,qCf,qCb]
theorem qSb (l:List dK):free (cD l)↔True:=by
 simp only [iff_true]
 intro r hr c hc
 simp only [cD,List.mem_map] at hr
 obtain ⟨x,_,rfl⟩:=hr
 simp [mW] at hc
 rcases hc with rfl | rfl<;>rfl
structure kU where
 cells:List (List wO)
 deriving DecidableEq,Inhabited
def vP (m:Mode) (x:kU):List AV:=[.sl m 1 (jO m x.cells)]
def uD (m:Mode) (l:List kU):List (List AV):=l.map (vP m)
theorem qLd (m:Mode):uD m []=[]:=rfl
theorem kQ (m:Mode) (l:List kU):(uD m l).length=l.length:=by simp [uD]
theorem qEq (m:Mode) (l k:List kU):uD m l++uD m k=uD m (l++k):=by simp [uD]
theorem qAa (m:Mode) (l:List kU) (n:Nat):(uD m l).drop n=uD m (l.drop n):=by simp [uD]
theorem qA9 (m:Mode) (l:List kU) (n:Nat):(uD m l).take n=uD m (l.take n):=by simp [uD]
theorem qLc (m:Mode) (l:List kU) (i:Nat) (cells_:List (List wO)):(uD m l).set i [.sl m 1 (jO m cells_)]=uD m (l.set i ⟨cells_⟩):=by simp [uD,vP]
theorem qLe (A:Nat→Prop) (m:Mode) (l:List kU):jW A (uD m l)↔True:=by
 simp only [iff_true]
 induction l with
 | nil=>trivial
 | cons x l ih=>exact ⟨by simp [vP,vN,bnd,eT,vH,gZ,uZ,gN,dD,zA,gA,aH,eD,xK,nF,iB,lN,lQ,qCg,qDo,qMy],ih⟩
theorem qNa (l:List kU):nbr (uD .own l)↔True:=by
 simp only [iff_true]
 induction l with
 | nil=>trivial
 | cons x l ih=>exact ⟨by simp [vP,nbs,nb,gT,xR,bZ,zJ,xW,zG,dG,eQ,cR,aO,sX,fR,hU,fE,pU,oJ,qQy],ih⟩
theorem qEa (m:Mode) :∀(l:List kU),bwR (uD m l)=uD .bw l
 | []=>rfl
 | x::l=>by
  have:=qEa m l
  simp only [uD,List.map_cons,bwR] at this⊢
  rw [this]
  simp [vP,bwL,bwC,dC,zT,bM,dL,zL,xO,gL,aU,eS,xZ,pX,iV,mG,lI,qCf,qCb,qL8]
theorem qIm (l:List kU):free (uD .bw l)↔True:=by
 simp only [iff_true]
 intro r hr c hc
 simp only [uD,List.mem_map] at hr
 obtain ⟨x,_,rfl⟩:=hr
 simp [vP] at hc
 rcases hc with rfl<;>rfl
structure qO where
 codes:List (List yC)
 cores:List bC
 mem:kU
 tr:List aT
 deriving DecidableEq,Inhabited
def wG (m:Mode) (x:qO):List AV:=[.sl m 1 (codes m x.codes),.sl m 4 (cores m x.cores),.sl m 1 (jO m x.mem.cells),.sl m 2 (jL x.tr)]
structure Em where
 list:List yC
 from_:Int
 base:Int
 room:Int
 deriving Inhabited
def emC (m:Mode) (x:Em):List AV:=[.sl m 5 (yO x.list),.int .i64 x.from_,.int .i64 x.base,.int .i64 x.room]
theorem fS2:((∀l,(yO l).length=l.length)∧(∀m l,(codes m l).length=l.length)∧(∀m l,(jH m l).length=l.length)∧(∀m l,(jO m l).length=l.length)∧(∀m l,(cores m l).length=l.length)∧(∀l,(cD l).length=l.length)∧(∀m l,(uD m l).length=l.length)):=⟨by intros; simp [oX],by intros; simp [xV],by intros; simp [nK],by intros; simp [yG],by intros; simp [vA],by intros; simp [sE],by intros; simp [kQ]⟩
attribute [go_sem] oX jA qFj qFi qRs bP xV qCc qHi qHg qT9 nK qIb qDz qDy qOl nL yG qO6 qKd qKc uE vA qLt qHe qHd qY rL sE qMz qJi qJh qU8 mW kQ qEq qAa qA9 qLc vP wG emC
attribute [simp] qRu iV iB fR oX qFi qFj qOs qTb mG lN hU xV qHg qHi qPz qOo lI lQ fE nK qDy qDz qMa qVg qCf qCg pU yG qKc qKd qTe qT7 qCb qDo oJ vA qHd qHe qPw qU9 qL8 qMy qQy sE qJh qJi qSb qLd qEa qLe qNa kQ qA9 qAa qIm bP nL rL mW vP wG emC
end Go.Sep
