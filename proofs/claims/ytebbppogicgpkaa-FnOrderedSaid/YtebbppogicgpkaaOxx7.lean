/- Contracts of functions. -/
import Derived.Test.YtebbppogicgpkaaOxx0
namespace Go.Sep
set_option maxHeartbeats 16000000
open Go.Proofs
set_option linter.unusedSimpArgs false
set_option linter.unusedVariables false
set_option maxRecDepth 100000
structure wX where
 op:Int
 r:Int
 a:Int
 b:Int
 n:Int
 deriving DecidableEq,Inhabited
def fB (x:wX):List AV:=[.int .i64 x.op,.int .i64 x.r,.int .i64 x.a,.int .i64 x.b,.int .i64 x.n]
def yT (l:List wX):List (List AV):=l.map fB
theorem qPc:yT []=[]:=rfl
theorem mA (l:List wX):(yT l).length=l.length:=by simp [yT]
theorem yO (l k:List wX):yT l++yT k=yT (l++k):=by simp [yT]
theorem gG (op_:Int) (r_:Int) (a_:Int) (b_:Int) (n_:Int):[[.int .i64 op_,.int .i64 r_,.int .i64 a_,.int .i64 b_,.int .i64 n_]]=yT [⟨op_,r_,a_,b_,n_⟩]:=rfl
theorem qDk (l:List wX) (n:Nat):(yT l).drop n=yT (l.drop n):=by simp [yT]
theorem qDj (l:List wX) (n:Nat):(yT l).take n=yT (l.take n):=by simp [yT]
theorem qPa (l:List wX) (i:Nat) (op_:Int) (r_:Int) (a_:Int) (b_:Int) (n_:Int):(yT l).set i [.int .i64 op_,.int .i64 r_,.int .i64 a_,.int .i64 b_,.int .i64 n_]=yT (l.set i ⟨op_,r_,a_,b_,n_⟩):=by simp [yT,fB]
theorem mB (l:List wX) (i:Nat) (h:i<l.length):(yT l).getD i []=[.int .i64 (l.getD i default).op,.int .i64 (l.getD i default).r,.int .i64 (l.getD i default).a,.int .i64 (l.getD i default).b,.int .i64 (l.getD i default).n]:=by simp [yT,fB,List.getD_eq_getElem?_getD,h]
theorem cB (A:Nat→Prop) (l:List wX):yV A (yT l)↔True:=by
 simp only [iff_true]
 induction l with
 | nil=>trivial
 | cons x l ih=>exact ⟨by simp [fB,jJ,bnd,aW,yS,bJ,vJ,uY,bN,gH,uP,zA,xB,dG,kH],ih⟩
theorem eO (l:List wX):nbr (yT l)↔True:=by
 simp only [iff_true]
 induction l with
 | nil=>trivial
 | cons x l ih=>exact ⟨by simp [fB,nbs,nb,bC,dK,uN,gL,dM,gK,bO,xR,aV,zJ,oV],ih⟩
theorem fA :∀(l:List wX),bwR (yT l)=yT l
 | []=>rfl
 | x::l=>by
  have:=fA l
  simp only [yT,List.map_cons,bwR] at this⊢
  rw [this]
  simp [fB,bwL,bwC,bM,gV,uB,bS,gP,dI,uX,zM,xV,dO,mX]
theorem qM9 (l:List wX):free (yT l)↔True:=by
 simp only [iff_true]
 intro r hr c hc
 simp only [yT,List.mem_map] at hr
 obtain ⟨x,_,rfl⟩:=hr
 simp [fB] at hc
 rcases hc with rfl | rfl | rfl | rfl | rfl<;>rfl
def codes (m:Mode) (l:List (List wX)):List (List AV):=l.map fun b=>[.sl m 5 (yT b)]
theorem qQp (m:Mode):codes m []=[]:=rfl
theorem aJ (m:Mode) (l:List (List wX)):(codes m l).length=l.length:=by simp [codes]
theorem qA6 (m:Mode) (l k:List (List wX)):codes m l++codes m k=codes m (l++k):=by simp [codes]
theorem qFa (m:Mode) (l:List (List wX)) (n:Nat):(codes m l).drop n=codes m (l.drop n):=by simp [codes]
theorem qF9 (m:Mode) (l:List (List wX)) (n:Nat):(codes m l).take n=codes m (l.take n):=by simp [codes]
theorem qQm (m:Mode) (l:List (List wX)) (i:Nat) (b_:List wX):(codes m l).set i [.sl m 5 (yT b_)]=codes m (l.set i b_):=by simp [codes]
theorem iO (m:Mode) (l:List (List wX)) (i:Nat) (h:i<l.length):(codes m l).getD i []=[.sl m 5 (yT (l.getD i []))]:=by simp [codes,List.getD_eq_getElem?_getD,h]
theorem hY (A:Nat→Prop) (m:Mode) (l:List (List wX)):yV A (codes m l)↔True:=by
 simp only [iff_true]
 induction l with
 | nil=>trivial
 | cons x l ih=>exact ⟨by simp [jJ,bnd,aW,yS,bJ,vJ,uY,bN,gH,uP,zA,xB,dG,kH,cB],ih⟩
theorem eT (l:List (List wX)):nbr (codes .own l)↔True:=by
 simp only [iff_true]
 induction l with
 | nil=>trivial
 | cons x l ih=>exact ⟨by simp [nbs,nb,bC,dK,uN,gL,dM,gK,bO,xR,aV,zJ,oV,eO],ih⟩
theorem iP (m:Mode) :∀(l:List (List wX)),bwR (codes m l)=codes .bw l
 | []=>rfl
 | x::l=>by
  have:=iP m l
  simp only [codes,List.map_cons,bwR] at this⊢
  rw [this]
  simp [bwL,bwC,bM,gV,uB,bS,gP,dI,uX,zM,xV,dO,mX,fA]
theorem qNh (l:List (List wX)):free (codes .bw l)↔True:=by
 simp only [iff_true]
 intro r hr c hc
 simp only [codes,List.mem_map] at hr
 obtain ⟨x,_,rfl⟩:=hr
 simp [] at hc
 rcases hc with rfl<;>rfl
structure wO where
 v:Int
 view:List Int
 deriving DecidableEq,Inhabited
def iB (m:Mode) (x:wO):List AV:=[.int .i64 x.v,.sl m 1 (wT x.view)]
def yX (m:Mode) (l:List wO):List (List AV):=l.map (iB m)
theorem qM5 (m:Mode):yX m []=[]:=rfl
theorem aS (m:Mode) (l:List wO):(yX m l).length=l.length:=by simp [yX]
theorem rA (m:Mode) (l k:List wO):yX m l++yX m k=yX m (l++k):=by simp [yX]
theorem qBq (m:Mode) (l:List wO) (n:Nat):(yX m l).drop n=yX m (l.drop n):=by simp [yX]
theorem qBp (m:Mode) (l:List wO) (n:Nat):(yX m l).take n=yX m (l.take n):=by simp [yX]
theorem qM2 (m:Mode) (l:List wO) (i:Nat) (v_:Int) (view_:List Int):(yX m l).set i [.int .i64 v_,.sl m 1 (wT view_)]=yX m (l.set i ⟨v_,view_⟩):=by simp [yX,iB]
theorem nN (m:Mode) (l:List wO) (i:Nat) (h:i<l.length):(yX m l).getD i []=[.int .i64 (l.getD i default).v,.sl m 1 (wT (l.getD i default).view)]:=by simp [yX,iB,List.getD_eq_getElem?_getD,h]
theorem iA (A:Nat→Prop) (m:Mode) (l:List wO):yV A (yX m l)↔True:=by
 simp only [iff_true]
 induction l with
 | nil=>trivial
 | cons x l ih=>exact ⟨by simp [iB,jJ,bnd,aW,yS,bJ,vJ,uY,bN,gH,uP,zA,xB,dG,kH,cB,hY],ih⟩
theorem eH (l:List wO):nbr (yX .own l)↔True:=by
 simp only [iff_true]
 induction l with
 | nil=>trivial
 | cons x l ih=>exact ⟨by simp [iB,nbs,nb,bC,dK,uN,gL,dM,gK,bO,xR,aV,zJ,oV,eO,eT],ih⟩
theorem hD (m:Mode) :∀(l:List wO),bwR (yX m l)=yX .bw l
 | []=>rfl
 | x::l=>by
  have:=hD m l
  simp only [yX,List.map_cons,bwR] at this⊢
  rw [this]
  simp [iB,bwL,bwC,bM,gV,uB,bS,gP,dI,uX,zM,xV,dO,mX,fA,iP]
theorem qJw (l:List wO):free (yX .bw l)↔True:=by
 simp only [iff_true]
 intro r hr c hc
 simp only [yX,List.mem_map] at hr
 obtain ⟨x,_,rfl⟩:=hr
 simp [iB] at hc
 rcases hc with rfl | rfl<;>rfl
def jT (m:Mode) (l:List (List wO)):List (List AV):=l.map fun b=>[.sl m 2 (yX m b)]
theorem qSw (m:Mode):jT m []=[]:=rfl
theorem zH (m:Mode) (l:List (List wO)):(jT m l).length=l.length:=by simp [jT]
theorem qCg (m:Mode) (l k:List (List wO)):jT m l++jT m k=jT m (l++k):=by simp [jT]
theorem qHx (m:Mode) (l:List (List wO)) (n:Nat):(jT m l).drop n=jT m (l.drop n):=by simp [jT]
theorem qHw (m:Mode) (l:List (List wO)) (n:Nat):(jT m l).take n=jT m (l.take n):=by simp [jT]
theorem oS (m:Mode) (l:List (List wO)) (i:Nat) (b_:List wO):(jT m l).set i [.sl m 2 (yX m b_)]=jT m (l.set i b_):=by simp [jT]
theorem cL (m:Mode) (l:List (List wO)) (i:Nat) (h:i<l.length):(jT m l).getD i []=[.sl m 2 (yX m (l.getD i []))]:=by simp [jT,List.getD_eq_getElem?_getD,h]
theorem qAa (A:Nat→Prop) (m:Mode) (l:List (List wO)):yV A (jT m l)↔True:=by
 simp only [iff_true]
 induction l with
 | nil=>trivial
 | cons x l ih=>exact ⟨by simp [jJ,bnd,aW,yS,bJ,vJ,uY,bN,gH,uP,zA,xB,dG,kH,cB,hY,iA],ih⟩
theorem mW (l:List (List wO)):nbr (jT .own l)↔True:=by
 simp only [iff_true]
 induction l with
 | nil=>trivial
 | cons x l ih=>exact ⟨by simp [nbs,nb,bC,dK,uN,gL,dM,gK,bO,xR,aV,zJ,oV,eO,eT,eH],ih⟩
theorem qA9 (m:Mode) :∀(l:List (List wO)),bwR (jT m l)=jT .bw l
 | []=>rfl
 | x::l=>by
  have:=qA9 m l
  simp only [jT,List.map_cons,bwR] at this⊢
  rw [this]
  simp [bwL,bwC,bM,gV,uB,bS,gP,dI,uX,zM,xV,dO,mX,fA,iP,hD]
theorem qQu (l:List (List wO)):free (jT .bw l)↔True:=by
 simp only [iff_true]
 intro r hr c hc
 simp only [jT,List.mem_map] at hr
 obtain ⟨x,_,rfl⟩:=hr
 simp [] at hc
 rcases hc with rfl<;>rfl
structure vK where
 at_:Int
 regs:List Int
 view:List Int
 st:Int
 deriving DecidableEq,Inhabited
def nF (m:Mode) (x:vK):List AV:=[.int .i64 x.at_,.sl m 1 (wT x.regs),.sl m 1 (wT x.view),.int .i64 x.st]
def cores (m:Mode) (l:List vK):List (List AV):=l.map (nF m)
theorem qQk (m:Mode):cores m []=[]:=rfl
theorem bE (m:Mode) (l:List vK):(cores m l).length=l.length:=by simp [cores]
theorem qA4 (m:Mode) (l k:List vK):cores m l++cores m k=cores m (l++k):=by simp [cores]
theorem qF5 (m:Mode) (l:List vK) (n:Nat):(cores m l).drop n=cores m (l.drop n):=by simp [cores]
theorem qF4 (m:Mode) (l:List vK) (n:Nat):(cores m l).take n=cores m (l.take n):=by simp [cores]
theorem qR (m:Mode) (l:List vK) (i:Nat) (at__:Int) (regs_:List Int) (view_:List Int) (st_:Int):(cores m l).set i [.int .i64 at__,.sl m 1 (wT regs_),.sl m 1 (wT view_),.int .i64 st_]=cores m (l.set i ⟨at__,regs_,view_,st_⟩):=by simp [cores,nF]
theorem uI (m:Mode) (l:List vK) (i:Nat) (h:i<l.length):(cores m l).getD i []=[.int .i64 (l.getD i default).at_,.sl m 1 (wT (l.getD i default).regs),.sl m 1 (wT (l.getD i default).view),.int .i64 (l.getD i default).st]:=by simp [cores,nF,List.getD_eq_getElem?_getD,h]
theorem qBe (A:Nat→Prop) (m:Mode) (l:List vK):yV A (cores m l)↔True:=by
 simp only [iff_true]
 induction l with
 | nil=>trivial
 | cons x l ih=>exact ⟨by simp [nF,jJ,bnd,aW,yS,bJ,vJ,uY,bN,gH,uP,zA,xB,dG,kH,cB,hY,iA,qAa],ih⟩
theorem fH (l:List vK):nbr (cores .own l)↔True:=by
 simp only [iff_true]
 induction l with
 | nil=>trivial
 | cons x l ih=>exact ⟨by simp [nF,nbs,nb,bC,dK,uN,gL,dM,gK,bO,xR,aV,zJ,oV,eO,eT,eH,mW],ih⟩
theorem qA3 (m:Mode) :∀(l:List vK),bwR (cores m l)=cores .bw l
 | []=>rfl
 | x::l=>by
  have:=qA3 m l
  simp only [cores,List.map_cons,bwR] at this⊢
  rw [this]
  simp [nF,bwL,bwC,bM,gV,uB,bS,gP,dI,uX,zM,xV,dO,mX,fA,iP,hD,qA9]
theorem qNd (l:List vK):free (cores .bw l)↔True:=by
 simp only [iff_true]
 intro r hr c hc
 simp only [cores,List.mem_map] at hr
 obtain ⟨x,_,rfl⟩:=hr
 simp [nF] at hc
 rcases hc with rfl | rfl | rfl | rfl<;>rfl
structure gI where
 who:Int
 late:Int
 deriving DecidableEq,Inhabited
def nC (x:gI):List AV:=[.int .i64 x.who,.int .i64 x.late]
def aN (l:List gI):List (List AV):=l.map nC
theorem qRo:aN []=[]:=rfl
theorem nX (l:List gI):(aN l).length=l.length:=by simp [aN]
theorem qKl (l k:List gI):aN l++aN k=aN (l++k):=by simp [aN]
theorem qH9 (l:List gI) (n:Nat):(aN l).drop n=aN (l.drop n):=by simp [aN]
theorem qH8 (l:List gI) (n:Nat):(aN l).take n=aN (l.take n):=by simp [aN]
theorem qRn (l:List gI) (i:Nat) (who_:Int) (late_:Int):(aN l).set i [.int .i64 who_,.int .i64 late_]=aN (l.set i ⟨who_,late_⟩):=by simp [aN,nC]
theorem qPr (l:List gI) (i:Nat) (h:i<l.length):(aN l).getD i []=[.int .i64 (l.getD i default).who,.int .i64 (l.getD i default).late]:=by simp [aN,nC,List.getD_eq_getElem?_getD,h]
theorem qKk (A:Nat→Prop) (l:List gI):yV A (aN l)↔True:=by
 simp only [iff_true]
 induction l with
 | nil=>trivial
 | cons x l ih=>exact ⟨by simp [nC,jJ,bnd,aW,yS,bJ,vJ,uY,bN,gH,uP,zA,xB,dG,kH,cB,hY,iA,qAa,qBe],ih⟩
theorem qOk (l:List gI):nbr (aN l)↔True:=by
 simp only [iff_true]
 induction l with
 | nil=>trivial
 | cons x l ih=>exact ⟨by simp [nC,nbs,nb,bC,dK,uN,gL,dM,gK,bO,xR,aV,zJ,oV,eO,eT,eH,mW,fH],ih⟩
theorem qIx :∀(l:List gI),bwR (aN l)=aN l
 | []=>rfl
 | x::l=>by
  have:=qIx l
  simp only [aN,List.map_cons,bwR] at this⊢
  rw [this]
  simp [nC,bwL,bwC,bM,gV,uB,bS,gP,dI,uX,zM,xV,dO,mX,fA,iP,hD,qA9,qA3]
theorem qPs (l:List gI):free (aN l)↔True:=by
 simp only [iff_true]
 intro r hr c hc
 simp only [aN,List.mem_map] at hr
 obtain ⟨x,_,rfl⟩:=hr
 simp [nC] at hc
 rcases hc with rfl | rfl<;>rfl
structure fN where
 cells:List (List wO)
 deriving DecidableEq,Inhabited
def dX (m:Mode) (x:fN):List AV:=[.sl m 1 (jT m x.cells)]
def jU (m:Mode) (l:List fN):List (List AV):=l.map (dX m)
theorem qJ4 (m:Mode):jU m []=[]:=rfl
theorem fL (m:Mode) (l:List fN):(jU m l).length=l.length:=by simp [jU]
theorem qCn (m:Mode) (l k:List fN):jU m l++jU m k=jU m (l++k):=by simp [jU]
theorem rE (m:Mode) (l:List fN) (n:Nat):(jU m l).drop n=jU m (l.drop n):=by simp [jU]
theorem rD (m:Mode) (l:List fN) (n:Nat):(jU m l).take n=jU m (l.take n):=by simp [jU]
theorem qJ3 (m:Mode) (l:List fN) (i:Nat) (cells_:List (List wO)):(jU m l).set i [.sl m 1 (jT m cells_)]=jU m (l.set i ⟨cells_⟩):=by simp [jU,dX]
theorem qJ5 (A:Nat→Prop) (m:Mode) (l:List fN):yV A (jU m l)↔True:=by
 simp only [iff_true]
 induction l with
 | nil=>trivial
 | cons x l ih=>exact ⟨by simp [dX,jJ,bnd,aW,yS,bJ,vJ,uY,bN,gH,uP,zA,xB,dG,kH,cB,hY,iA,qAa,qBe,qKk],ih⟩
theorem qKv (l:List fN):nbr (jU .own l)↔True:=by
 simp only [iff_true]
 induction l with
 | nil=>trivial
 | cons x l ih=>exact ⟨by simp [dX,nbs,nb,bC,dK,uN,gL,dM,gK,bO,xR,aV,zJ,oV,eO,eT,eH,mW,fH,qOk],ih⟩
theorem qC1 (m:Mode) :∀(l:List fN),bwR (jU m l)=jU .bw l
 | []=>rfl
 | x::l=>by
  have:=qC1 m l
  simp only [jU,List.map_cons,bwR] at this⊢
  rw [this]
  simp [dX,bwL,bwC,bM,gV,uB,bS,gP,dI,uX,zM,xV,dO,mX,fA,iP,hD,qA9,qA3,qIx]
theorem qGa (l:List fN):free (jU .bw l)↔True:=by
 simp only [iff_true]
 intro r hr c hc
 simp only [jU,List.mem_map] at hr
 obtain ⟨x,_,rfl⟩:=hr
 simp [dX] at hc
 rcases hc with rfl<;>rfl
structure qK where
 codes:List (List wX)
 cores:List vK
 mem:fN
 tr:List dW
 deriving DecidableEq,Inhabited
def qS (m:Mode) (x:qK):List AV:=[.sl m 1 (codes m x.codes),.sl m 4 (cores m x.cores),.sl m 1 (jT m x.mem.cells),.sl m 2 (yW x.tr)]
structure Em where
 list:List wX
 from_:Int
 base:Int
 room:Int
 deriving Inhabited
def emC (m:Mode) (x:Em):List AV:=[.sl m 5 (yT x.list),.int .i64 x.from_,.int .i64 x.base,.int .i64 x.room]
theorem fS2:((∀l,(yT l).length=l.length)∧(∀m l,(codes m l).length=l.length)∧(∀m l,(yX m l).length=l.length)∧(∀m l,(jT m l).length=l.length)∧(∀m l,(cores m l).length=l.length)∧(∀l,(aN l).length=l.length)∧(∀m l,(jU m l).length=l.length)):=⟨by intros; simp [mA],by intros; simp [aJ],by intros; simp [aS],by intros; simp [zH],by intros; simp [bE],by intros; simp [nX],by intros; simp [fL]⟩
attribute [go_sem] mA yO qDk qDj qPa fB aJ qA6 qFa qF9 qQm aS rA qBq qBp qM2 iB zH qCg qHx qHw oS bE qA4 qF5 qF4 qR nF nX qKl qH9 qH8 qRn nC fL qCn rE rD qJ3 dX qS emC
attribute [simp] qPc fA cB eO mA qDj qDk qM9 qQp iP hY eT aJ qF9 qFa qNh qM5 hD iA eH aS qBp qBq qJw qSw qA9 qAa mW zH qHw qHx qQu qQk qA3 qBe fH bE qF4 qF5 qNd qRo qIx qKk qOk nX qH8 qH9 qPs qJ4 qC1 qJ5 qKv fL rD rE qGa fB iB nF nC dX qS emC
end Go.Sep
