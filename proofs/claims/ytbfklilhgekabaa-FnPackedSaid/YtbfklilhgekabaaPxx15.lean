/- Contracts of functions. -/
import Derived.Test.YtbfklilhgekabaaPxx6
import Derived.Test.YtbfklilhgekabaaPxx7
open Bool renaming and_eq_true → qXa, or_eq_true → qXl
open List renaming all_eq_true → qZ2, foldl_cons → qZ4, getD_cons_succ → qZ5, getD_eq_getElem?_getD → qXc, length_set → qYr, map_cons → qX7, mem_map → qYq, replicate → qX4, set_eq_of_length_le → qZ3
namespace Go.Sep
set_option maxHeartbeats 16000000
open Go.Proofs
set_option linter.unusedSimpArgs false
set_option linter.unusedVariables false
set_option maxRecDepth 100000
structure bC where
 is_:Bool
 v:Int
 deriving DecidableEq,Inhabited
def mT (x:bC):List AV:=[.bool x.is_,.int .i64 x.v]
def uP (l:List bC):List (List AV):=l.map mT
theorem qMn:uP []=[]:=rfl
theorem hO (l:List bC):(uP l).length=l.length:=by simp [uP]
theorem qFb (l k:List bC):uP l++uP k=uP (l++k):=by simp [uP]
theorem qBe (l:List bC) (n:Nat):(uP l).drop n=uP (l.drop n):=by simp [uP]
theorem qBd (l:List bC) (n:Nat):(uP l).take n=uP (l.take n):=by simp [uP]
theorem qMm (l:List bC) (i:Nat) (is__:Bool) (v_:Int):(uP l).set i [.bool is__,.int .i64 v_]=uP (l.set i ⟨is__,v_⟩):=by simp [uP,mT]
theorem kT (A:Nat→Prop) (l:List bC):yM A (uP l)↔True:=by
 simp only [iff_true]
 induction l with
 | nil=>trivial
 | cons x l ih=>exact ⟨by simp [mT,yX,bnd,dQ,yO,vT,jK,vI,vW,uH,jZ,bN,gF,uM,aW],ih⟩
theorem oF (l:List bC):nbr (uP l)↔True:=by
 simp only [iff_true]
 induction l with
 | nil=>trivial
 | cons x l ih=>exact ⟨by simp [mT,nbs,nb,vS,bG,vC,uQ,bA,uO,vQ,gV,dC,bP,hZ],ih⟩
theorem iQ :∀(l:List bC),bwR (uP l)=uP l
 | []=>rfl
 | x::l=>by
  have:=iQ l
  simp only [uP,qX7,bwR] at this⊢
  rw [this]
  simp [mT,bwL,bwC,uD,uV,jS,uF,uR,uZ,vG,gI,gY,uY,cU]
theorem qKc (l:List bC):free (uP l)↔True:=by
 simp only [iff_true]
 intro r hr c hc
 simp only [uP,qYq] at hr
 obtain ⟨x,_,rfl⟩:=hr
 simp [mT] at hc
 rcases hc with rfl | rfl<;>rfl
def vL (m:Mode) (l:List (List bC)):List (List AV):=l.map fun b=>[.sl m 2 (uP b)]
theorem qKb (m:Mode):vL m []=[]:=rfl
theorem cN (m:Mode) (l:List (List bC)):(vL m l).length=l.length:=by simp [vL]
theorem qDq (m:Mode) (l k:List (List bC)):vL m l++vL m k=vL m (l++k):=by simp [vL]
theorem sK (m:Mode) (l:List (List bC)) (n:Nat):(vL m l).drop n=vL m (l.drop n):=by simp [vL]
theorem sJ (m:Mode) (l:List (List bC)) (n:Nat):(vL m l).take n=vL m (l.take n):=by simp [vL]
theorem qKa (m:Mode) (l:List (List bC)) (i:Nat) (b_:List bC):(vL m l).set i [.sl m 2 (uP b_)]=vL m (l.set i b_):=by simp [vL]
theorem mR (A:Nat→Prop) (m:Mode) (l:List (List bC)):yM A (vL m l)↔True:=by
 simp only [iff_true]
 induction l with
 | nil=>trivial
 | cons x l ih=>exact ⟨by simp [yX,bnd,dQ,yO,vT,jK,vI,vW,uH,jZ,bN,gF,uM,aW,kT],ih⟩
theorem pR (l:List (List bC)):nbr (vL .own l)↔True:=by
 simp only [iff_true]
 induction l with
 | nil=>trivial
 | cons x l ih=>exact ⟨by simp [nbs,nb,vS,bG,vC,uQ,bA,uO,vQ,gV,dC,bP,hZ,oF],ih⟩
theorem kS (m:Mode) :∀(l:List (List bC)),bwR (vL m l)=vL .bw l
 | []=>rfl
 | x::l=>by
  have:=kS m l
  simp only [vL,qX7,bwR] at this⊢
  rw [this]
  simp [bwL,bwC,uD,uV,jS,uF,uR,uZ,vG,gI,gY,uY,cU,iQ]
theorem qI8 (l:List (List bC)):free (vL .bw l)↔True:=by
 simp only [iff_true]
 intro r hr c hc
 simp only [vL,qYq] at hr
 obtain ⟨x,_,rfl⟩:=hr
 simp [] at hc
 rcases hc with rfl<;>rfl
def bF (m:Mode) (l:List (List bB)):List (List AV):=l.map fun b=>[.sl m 2 (yR b)]
theorem qM8 (m:Mode):bF m []=[]:=rfl
theorem hB (m:Mode) (l:List (List bB)):(bF m l).length=l.length:=by simp [bF]
theorem qF8 (m:Mode) (l k:List (List bB)):bF m l++bF m k=bF m (l++k):=by simp [bF]
theorem qB8 (m:Mode) (l:List (List bB)) (n:Nat):(bF m l).drop n=bF m (l.drop n):=by simp [bF]
theorem qB7 (m:Mode) (l:List (List bB)) (n:Nat):(bF m l).take n=bF m (l.take n):=by simp [bF]
theorem qM7 (m:Mode) (l:List (List bB)) (i:Nat) (b_:List bB):(bF m l).set i [.sl m 2 (yR b_)]=bF m (l.set i b_):=by simp [bF]
theorem qDc (A:Nat→Prop) (m:Mode) (l:List (List bB)):yM A (bF m l)↔True:=by
 simp only [iff_true]
 induction l with
 | nil=>trivial
 | cons x l ih=>exact ⟨by simp [yX,bnd,dQ,yO,vT,jK,vI,vW,uH,jZ,bN,gF,uM,aW,kT,mR],ih⟩
theorem qG7 (l:List (List bB)):nbr (bF .own l)↔True:=by
 simp only [iff_true]
 induction l with
 | nil=>trivial
 | cons x l ih=>exact ⟨by simp [nbs,nb,vS,bG,vC,uQ,bA,uO,vQ,gV,dC,bP,hZ,oF,pR],ih⟩
theorem qAb (m:Mode) :∀(l:List (List bB)),bwR (bF m l)=bF .bw l
 | []=>rfl
 | x::l=>by
  have:=qAb m l
  simp only [bF,qX7,bwR] at this⊢
  rw [this]
  simp [bwL,bwC,uD,uV,jS,uF,uR,uZ,vG,gI,gY,uY,cU,iQ,kS]
theorem qJu (l:List (List bB)):free (bF .bw l)↔True:=by
 simp only [iff_true]
 intro r hr c hc
 simp only [bF,qYq] at hr
 obtain ⟨x,_,rfl⟩:=hr
 simp [] at hc
 rcases hc with rfl<;>rfl
def vD (l:List Bool):List (List AV):=l.map fun b=>[.bool b]
theorem qNe:vD []=[]:=rfl
theorem iA (l:List Bool):(vD l).length=l.length:=by simp [vD]
theorem qFk (l k:List Bool):vD l++vD k=vD (l++k):=by simp [vD]
theorem qBt (l:List Bool) (n:Nat):(vD l).drop n=vD (l.drop n):=by simp [vD]
theorem qBs (l:List Bool) (n:Nat):(vD l).take n=vD (l.take n):=by simp [vD]
theorem qNd (n:Nat) (b_:Bool):List.replicate n [.bool b_]=vD (List.replicate n b_):=by simp [vD]
theorem qEh (l:List Bool) (i:Nat) (b_:Bool):(vD l).set i [.bool b_]=vD (l.set i b_):=by simp [vD]
theorem nM (l:List Bool) (i:Nat) (h:i<l.length):(vD l).getD i []=[.bool (l.getD i false)]:=by simp [vD,List.getD_eq_getElem?_getD,h]
theorem qNf (A:Nat→Prop) (l:List Bool):yM A (vD l)↔True:=by
 simp only [iff_true]
 induction l with
 | nil=>trivial
 | cons x l ih=>exact ⟨by simp [yX,bnd,dQ,yO,vT,jK,vI,vW,uH,jZ,bN,gF,uM,aW,kT,mR,qDc],ih⟩
theorem qR1 (l:List Bool):nbr (vD l)↔True:=by
 simp only [iff_true]
 induction l with
 | nil=>trivial
 | cons x l ih=>exact ⟨by simp [nbs,nb,vS,bG,vC,uQ,bA,uO,vQ,gV,dC,bP,hZ,oF,pR,qG7],ih⟩
theorem qH1 :∀(l:List Bool),bwR (vD l)=vD l
 | []=>rfl
 | x::l=>by
  have:=qH1 l
  simp only [vD,qX7,bwR] at this⊢
  rw [this]
  simp [bwL,bwC,uD,uV,jS,uF,uR,uZ,vG,gI,gY,uY,cU,iQ,kS,qAb]
theorem qL9 (l:List Bool):free (vD l)↔True:=by
 simp only [iff_true]
 intro r hr c hc
 simp only [vD,qYq] at hr
 obtain ⟨x,_,rfl⟩:=hr
 simp [] at hc
 rcases hc with rfl<;>rfl
theorem fS3:((∀l,(uP l).length=l.length)∧(∀m l,(vL m l).length=l.length)∧(∀m l,(bF m l).length=l.length)∧(∀l,(vD l).length=l.length)):=⟨by intros; simp [hO],by intros; simp [cN],by intros; simp [hB],by intros; simp [iA]⟩
attribute [go_sem] hO qFb qBe qBd qMm mT cN qDq sK sJ qKa hB qF8 qB8 qB7 qM7 iA qFk qBt qBs qEh
attribute [simp] qMn iQ kT oF hO qBd qBe qKc qKb kS mR pR cN sJ sK qI8 qM8 qAb qDc qG7 hB qB7 qB8 qJu qNe qH1 qNf qR1 iA qBs qBt qL9 mT
abbrev KV:=List bC
abbrev KS:=List KV
def kno:bC:=⟨false,0⟩
def qJi (x:Ins):List Int:=if x.op=1∨x.op=2∨x.op=3∨x.op=4∨x.op=7 then [x.r] else if x.op=6∨x.op=8 then [x.r,x.b] else []
def qO3 (op:Int):Bool:=decide (op=2)||decide (op=3)||decide (op=4)
def cW (x:Ins) (k:KV):KV :=
 let out:=(qJi x).foldl (fun o r=>o.set r.toNat kno) k
 if x.op=1 then out.set x.r.toNat ⟨true,x.n⟩
 else if qO3 x.op&&(k.getD x.a.toNat default).is_&&(k.getD x.b.toNat default).is_ then out.set x.r.toNat ⟨true,zT x.op (k.getD x.a.toNat default).v (k.getD x.b.toNat default).v⟩
 else out
def mQ (a b:bC):bC:=if a.is_&&!decide (a=b) then kno else a
def qSl (a b:bC):Bool:=a.is_&&!decide (a=b)
def bX:KV→KV→KV
 | a::l,b::k=>mQ a b::bX l k
 | l,_=>l
def qBc:KV→KV→Bool
 | a::l,b::k=>qSl a b||qBc l k
 | _,_=>false
def vN (l:List Ins) (at_:Nat):List Int :=
 let x:Ins:=l.getD at_ default
 if x.op=13 then [] else if x.op=11 then [x.n]
 else if x.op=12 then (if x.n<(at_:Int)+1 then [x.n,(at_:Int)+1] else if (at_:Int)+1<x.n then [(at_:Int)+1,x.n] else [(at_:Int)+1])
 else [(at_:Int)+1]
def WfV (k:KV):Prop:=k.length=4∧∀a∈k,a.is_=false→a=kno
def kle (a b:bC):Prop:=b=kno∨a=b
def vle (a b:KV):Prop:=a.length=b.length∧∀i,i<a.length→kle (a.getD i default) (b.getD i default)
theorem mU (a:bC):kle a a:=.inr rfl
theorem qQa {a b c:bC} (h:kle a b) (k:kle b c):kle a c:=by
 rcases k with rfl | rfl
 ·exact .inl rfl
 ·exact h
theorem qCl (a:KV):vle a a:=⟨rfl,fun _ _=>mU _⟩
theorem qFn {a b c:KV} (h:vle a b) (k:vle b c):vle a c:=⟨h.1.trans k.1,fun i hi=>qQa (h.2 i hi) (k.2 i (h.1▸hi))⟩
theorem jG {α:Type} (l:List α) (i j:Nat) (a d:α) (hi:i<l.length):(l.set i a).getD j d=if j=i then a else l.getD j d:=by
 by_cases h:j=i
 ·subst h
  simp [qXc,hi]
 ·rw [if_neg h]
  simp [qXc,List.getElem?_set,show¬i=j from fun e=>h e.symm]
theorem qW8 {k:KV} (h:WfV k) (i:Nat) (hk:(k.getD i default).is_=false):k.getD i default=kno:=by
 by_cases hi:i<k.length
 ·exact h.2 _ (jD k i default hi) hk
 ·rw [qXc,List.getElem?_eq_none (by omega)]
  rfl
theorem qLq {k:KV} (h:WfV k) (i:Nat) {a:bC} (ha:a.is_=false→a=kno):WfV (k.set i a):=by
 refine ⟨by rw [qYr]; exact h.1,fun b hb=>?_⟩
 rcases List.mem_or_eq_of_mem_set hb with hb | rfl
 ·exact h.2 b hb
 ·exact ha
theorem qNp:WfV [⟨true,0⟩,⟨true,0⟩,⟨true,0⟩,⟨true,0⟩]:=⟨rfl,fun a ha h=>by
 simp at ha
 subst ha
 simp at h⟩
structure qJ2 (x:Ins):Prop where
 r:0≤x.r∧x.r.toNat<4
 a:0≤x.a∧x.a.toNat<4
 b:0≤x.b∧x.b.toNat<4
theorem qUk {x:Ins} {pl ch:Int} (h:yZ x pl ch=true):qJ2 x:=by
 unfold yZ at h
 simp only [qXa,qK] at h
 obtain ⟨⟨⟨⟨h1,h2⟩,h3⟩,_⟩,_⟩:=h
 exact ⟨by omega,by omega,by omega⟩
theorem oY {k:KV} (h:WfV k) :∀(s:List Int) (o:KV),WfV o→WfV (s.foldl (fun o r=>o.set r.toNat kno) o)
 | [],o,ho=>ho
 | r::s,o,ho=>oY h s _ (qLq ho _ fun _=>rfl)
theorem qR5 (x:Ins) {k:KV} (h:WfV k):WfV (cW x k):=by
 have hf:=oY h (qJi x) k h
 unfold cW
 simp only
 split
 ·exact qLq hf _ (by simp)
 ·split
  ·exact qLq hf _ (by simp)
  ·exact hf
theorem qHg {a b:KV} (h:vle a b) (i:Nat) {c d:bC} (hc:kle c d):vle (a.set i c) (b.set i d):=by
 refine ⟨by simp [h.1],fun j hj=>?_⟩
 rw [qYr] at hj
 by_cases hi:i<a.length
 ·rw [jG _ _ _ _ _ hi,jG _ _ _ _ _ (h.1▸hi)]
  split
  ·exact hc
  ·exact h.2 j hj
 ·rw [qZ3 (by omega),qZ3 (by have:=h.1; omega)]
  exact h.2 j hj
theorem qJ8 :∀(s:List Int) {a b:KV},vle a b→vle (s.foldl (fun o r=>o.set r.toNat kno) a) (s.foldl (fun o r=>o.set r.toNat kno) b)
 | [],_,_,h=>h
 | r::s,_,_,h=>qJ8 s (qHg h _ (mU _))
theorem qO8 :∀(s:List Int) (r:Int) (k:KV),r∈s→r.toNat<k.length→(s.foldl (fun o r=>o.set r.toNat kno) k).getD r.toNat default=kno
 | [],r,k,h,_=>by simp at h
 | q::s,r,k,h,hr=>by
  simp only [qZ4]
  by_cases hs:r∈s
  ·exact qO8 s r _ hs (by simpa using hr)
  ·have e:r=q:=by
    rcases List.mem_cons.1 h with h | h
    ·exact h
    ·exact absurd h hs
   subst e
   have hne :∀(t:List Int) (o:KV),o.getD r.toNat default=kno→r.toNat<o.length→(t.foldl (fun o r=>o.set r.toNat kno) o).getD r.toNat default=kno:=by
    intro t
    induction t with
    | nil=>intro o ho _; exact ho
    | cons p t ih =>
     intro o ho hl
     refine ih _ ?_ (by simpa using hl)
     by_cases hp:p.toNat<o.length
     ·rw [jG _ _ _ _ _ hp]
      split
      ·rfl
      ·exact ho
     ·have e:(fun (o:KV) (r:Int)=>o.set r.toNat kno) o p=o:=qZ3 (by omega)
      rw [e]
      exact ho
   exact hne s _ (by rw [jG _ _ _ _ _ hr,if_pos rfl]) (by simpa using hr)
theorem qLe {x:Ins} (hx:qJ2 x) {a b:KV} (ha:WfV a) (hb:WfV b) (h:vle a b):vle (cW x a) (cW x b):=by
 have hs:=qJ8 (qJi x) h
 unfold cW
 simp only
 split
 ·exact qHg hs _ (mU _)
 ·have la:=h.2 x.a.toNat (by rw [ha.1]; exact hx.a.2)
  have lb:=h.2 x.b.toNat (by rw [ha.1]; exact hx.b.2)
  by_cases hk:qO3 x.op&&(b.getD x.a.toNat default).is_&&(b.getD x.b.toNat default).is_
  ·have hk':=hk
   simp only [qXa] at hk'
   have ea:a.getD x.a.toNat default=b.getD x.a.toNat default:=by
    rcases la with e | e
    ·rw [e] at hk'; simp [kno] at hk'
    ·exact e
   have eb:a.getD x.b.toNat default=b.getD x.b.toNat default:=by
    rcases lb with e | e
    ·rw [e] at hk'; simp [kno] at hk'
    ·exact e
   rw [ea,eb,if_pos hk,if_pos hk]
   exact qHg hs _ (mU _)
  ·rw [if_neg hk]
   split
   ·rename_i ht
    simp only [qXa] at ht
    have h3:x.r∈qJi x:=by
     have:=ht.1.1
     unfold qO3 at this
     simp at this
     unfold qJi
     rw [if_pos (by omega)]
     simp
    have hz:=qO8 (qJi x) x.r b h3 (by rw [hb.1]; exact hx.r.2)
    have hlen :∀(s:List Int) (o:KV),(s.foldl (fun o r=>o.set r.toNat kno) o).length=o.length:=by
     intro s
     induction s with
     | nil=>intro o; rfl
     | cons p s ih=>intro o; simp only [qZ4]; rw [ih]; simp
    refine ⟨by simp [hlen,h.1],fun j hj=>?_⟩
    rw [qYr] at hj
    have hj0:x.r.toNat<((qJi x).foldl (fun o r=>o.set r.toNat kno) a).length:=by rw [hlen,ha.1]; exact hx.r.2
    rw [jG _ _ _ _ _ hj0]
    split
    ·rename_i e
     rw [e,hz]
     exact .inl rfl
    ·exact hs.2 j hj
   ·exact hs
theorem dX :∀(a b:KV),(bX a b).length=a.length
 | [],_=>by simp [bX]
 | _::_,[]=>by simp [bX]
 | a::l,b::k=>by simp [bX,dX l k]
theorem sF :∀(a b:KV) (i:Nat),i<a.length→i<b.length→(bX a b).getD i default=mQ (a.getD i default) (b.getD i default)
 | [],_,i,h,_=>by simp at h
 | _::_,[],i,_,h=>by simp at h
 | a::l,b::k,0,_,_=>by simp [bX]
 | a::l,b::k,i+1,h,g=>by
  simp only [bX,qZ5]
  exact sF l k i (by simpa using h) (by simpa using g)
theorem qCa {a:KV} (b:KV) (ha:WfV a):WfV (bX a b):=by
 refine ⟨by rw [dX]; exact ha.1,?_⟩
 have :∀(a b:KV),(∀x∈a,x.is_=false→x=kno)→∀x∈bX a b,x.is_=false→x=kno:=by
  intro a
  induction a with
  | nil=>intro b _ x hx; simp [bX] at hx
  | cons c l ih =>
   intro b h
   cases b with
   | nil=>simpa [bX] using h
   | cons d k =>
    intro x hx hf
    simp only [bX] at hx
    rcases List.mem_cons.1 hx with rfl | hx
    ·unfold mQ at hf⊢
     split
     ·rfl
     ·rename_i hc
      rw [if_neg hc] at hf
      exact h c (by simp) hf
    ·exact ih k (fun y hy=>h y (by simp [hy])) x hx hf
 exact this a b ha.2
theorem qSf {a b:KV} (ha:WfV a) (hb:WfV b):vle a (bX a b):=by
 refine ⟨(dX a b).symm,fun i hi=>?_⟩
 rw [sF a b i hi (by rw [hb.1,←ha.1]; exact hi)]
 unfold mQ
 split
 ·exact .inl rfl
 ·exact mU _
theorem qSe {a b:KV} (ha:WfV a) (hb:WfV b):vle b (bX a b):=by
 refine ⟨by rw [dX,ha.1,hb.1],fun i hi=>?_⟩
 have hia:i<a.length:=by rw [ha.1,←hb.1]; exact hi
 rw [sF a b i hia hi]
 unfold mQ
 split
 ·exact .inl rfl
 ·rename_i hc
  cases hk:(a.getD i default).is_ with
  | false=>rw [qW8 ha i hk]; exact .inl rfl
  | true =>
   rw [hk] at hc
   simp only [Bool.true_and,Bool.not_eq_true',decide_eq_false_iff_not,Decidable.not_not] at hc
   exact .inr hc.symm
theorem qMe {a b c:KV} (ha:vle a c) (hb:vle b c):vle (bX a b) c:=by
 refine ⟨by rw [dX]; exact ha.1,fun i hi=>?_⟩
 rw [dX] at hi
 have hib:i<b.length:=by rw [hb.1,←ha.1]; exact hi
 rw [sF a b i hi hib]
 unfold mQ
 split
 ·rename_i hc
  simp only [qXa,Bool.not_eq_true',decide_eq_false_iff_not] at hc
  rcases ha.2 i hi with e | e
  ·exact .inl e
  ·rcases hb.2 i hib with e' | e'
   ·exact .inl e'
   ·exact absurd (e.trans e'.symm) hc.2
 ·exact ha.2 i hi
theorem qDn :∀{a b:KV},qBc a b=false→bX a b=a
 | [],_,_=>by simp [bX]
 | _::_,[],_=>by simp [bX]
 | a::l,b::k,h=>by
  simp only [qBc,Bool.or_eq_false_iff] at h
  simp only [bX,qDn h.2]
  unfold mQ
  have:=h.1
  unfold qSl at this
  rw [if_neg (by rw [this]; simp)]
def cnt:KV→Nat
 | []=>0
 | a::l=>(if a.is_ then 1 else 0)+cnt l
theorem qTl :∀(a:KV),cnt a≤a.length
 | []=>by simp [cnt]
 | a::l=>by
  have:=qTl l
  simp only [cnt,List.length_cons]
  split<;>omega
theorem qJz :∀(a b:KV),cnt (bX a b)≤cnt a∧(qBc a b=true→cnt (bX a b)<cnt a)
 | [],_=>by simp [bX,qBc,cnt]
 | _::_,[]=>by simp [bX,qBc]
 | a::l,b::k=>by
  have ih:=qJz l k
  have h1:(if (mQ a b).is_ then 1 else 0)≤(if a.is_ then 1 else 0:Nat):=by
   unfold mQ
   split
   ·simp [kno]
   ·exact Nat.le_refl _
  simp only [bX,qBc,cnt]
  refine ⟨by have:=ih.1; omega,fun h=>?_⟩
  rw [qXl] at h
  rcases h with h | h
  ·have h2:(if (mQ a b).is_ then 1 else 0)<(if a.is_ then 1 else 0:Nat):=by
    unfold qSl at h
    unfold mQ
    rw [if_pos h]
    simp only [qXa] at h
    simp [kno,h.1]
   have:=ih.1
   omega
  ·have:=ih.2 h
   omega
def qOn:KV:=[⟨true,0⟩,⟨true,0⟩,⟨true,0⟩,⟨true,0⟩]
def bl (a b:KV):Prop:=a=[]∨(b≠[]∧vle a b)
theorem qV2 (a:KV):bl a a:=by
 by_cases h:a=[]
 ·exact .inl h
 ·exact .inr ⟨h,qCl a⟩
abbrev kat (S:KS) (i:Nat):KV:=S.getD i []
def EOk (l:List Ins) (S:KS) (a:Nat):Prop:=kat S a≠[]→∀n∈vN l a,kat S n.toNat≠[]∧vle (cW (l.getD a default) (kat S a)) (kat S n.toNat)
structure qU3 (l:List Ins) (T:KS):Prop where
 len:T.length=l.length
 wf :∀i,kat T i=[]∨WfV (kat T i)
 init:kat T 0≠[]∧vle qOn (kat T 0)
 edge :∀a,a<l.length→EOk l T a
structure qRb (l:List Ins) (S:KS):Prop where
 len:S.length=l.length
 wf :∀i,kat S i=[]∨WfV (kat S i)
 init:kat S 0≠[]∧vle qOn (kat S 0)
 least :∀T,qU3 l T→∀i,bl (kat S i) (kat T i)
structure qU4 (l:List Ins) (S:KS):Prop where
 inv:qRb l S
 edge :∀a,a<l.length→EOk l S a
def upd (S:KS) (out:KV) (n:Nat):KS:=S.set n (if kat S n=[] then out else bX (kat S n) out)
def qP4 (S:KS) (out:KV) (n:Nat):Bool:=decide (kat S n=[])||qBc (kat S n) out
theorem qHi (S:KS) (out:KV) (n i:Nat) (h:n<S.length):kat (upd S out n) i=if i=n then (if kat S n=[] then out else bX (kat S n) out) else kat S i:=jG _ _ _ _ _ h
theorem qLs (S:KS) (out:KV) (n:Nat):(upd S out n).length=S.length:=qYr
theorem qFm {a:KV} (h:WfV a):a≠[]:=fun e=>by have:=h.1; rw [e] at this; simp at this
theorem qVp {S:KS} {out:KV} {n:Nat} (hn:n<S.length) (hw:kat S n=[]∨WfV (kat S n)) (ho:WfV out) (i:Nat):bl (kat S i) (kat (upd S out n) i):=by
 rw [qHi S out n i hn]
 split
 ·rename_i e
  subst e
  split
  ·rename_i h; exact .inl h
  ·rename_i h
   have hw':WfV (kat S i):=hw.resolve_left h
   exact .inr ⟨qFm (qCa _ hw'),qSf hw' ho⟩
 ·exact qV2 _
theorem qU6 {S:KS} {out:KV} {n:Nat} (hn:n<S.length) (hw:kat S n=[]∨WfV (kat S n)) (ho:WfV out):kat (upd S out n) n≠[]∧vle out (kat (upd S out n) n):=by
 rw [qHi S out n n hn,if_pos rfl]
 split
 ·exact ⟨qFm ho,qCl _⟩
 ·rename_i h
  have hw':WfV (kat S n):=hw.resolve_left h
  exact ⟨qFm (qCa _ hw'),qSe hw' ho⟩
theorem qRh {S:KS} {out:KV} {n:Nat} (h:qP4 S out n=false):upd S out n=S:=by
 unfold qP4 at h
 simp only [Bool.or_eq_false_iff,decide_eq_false_iff_not] at h
 unfold upd
 rw [if_neg h.1,qDn h.2]
 by_cases hn:n<S.length
 ·apply List.ext_getElem (by simp)
  intro i h1 h2
  rw [List.getElem_set]
  split
  ·rename_i e
   subst e
   simp [kat,qXc,hn]
  ·rfl
 ·exact qZ3 (by omega)
def wS (v:KV):Nat:=if v=[] then 5 else cnt v
def mS (S:KS):Nat:=pH wS S
theorem qJd {α:Type} (w:α→Nat) (d:α) :∀(l:List α) (i:Nat) (a:α),i<l.length→pH w (l.set i a)+w (l.getD i d)=pH w l+w a
 | [],i,a,h=>by simp at h
 | x::l,0,a,h=>by simp [pH]; omega
 | x::l,i+1,a,h=>by
  have:=qJd w d l i a (by simpa using h)
  simp only [List.set_cons_succ,pH,qZ5]
  omega
theorem qRi {S:KS} {out:KV} {n:Nat} (hn:n<S.length) (hw:kat S n=[]∨WfV (kat S n)) (ho:WfV out):mS (upd S out n)≤mS S∧(qP4 S out n=true→mS (upd S out n)<mS S):=by
 have ht:=qJd wS [] S n (if kat S n=[] then out else bX (kat S n) out) hn
 have e:pH wS (upd S out n)=mS (upd S out n):=rfl
 have hk:S.getD n []=kat S n:=rfl
 unfold upd at e⊢
 unfold qP4 mS at *
 rw [hk] at ht
 by_cases h:kat S n=[]
 ·rw [if_pos h] at ht⊢
  have h1:wS (kat S n)=5:=by unfold wS; rw [if_pos h]
  have h2:wS out≤4:=by unfold wS; rw [if_neg (qFm ho)]; have:=qTl out; rw [ho.1] at this; exact this
  exact ⟨by omega,fun _=>by omega⟩
 ·rw [if_neg h] at ht⊢
  have hw':WfV (kat S n):=hw.resolve_left h
  have h1:wS (kat S n)=cnt (kat S n):=by unfold wS; rw [if_neg h]
  have h2:wS (bX (kat S n) out)=cnt (bX (kat S n) out):=by unfold wS; rw [if_neg (qFm (qCa _ hw'))]
  have hm:=qJz (kat S n) out
  refine ⟨by have:=hm.1; omega,fun hd=>?_⟩
  rw [qXl] at hd
  rcases hd with hd | hd
  ·exact absurd (by simpa using hd) h
  ·have:=hm.2 hd
   omega
theorem qU7 {l:List Ins} {S:KS} {out:KV} {n:Nat} (h:qRb l S) (hn:n<l.length) (ho:WfV out) (hl :∀T,qU3 l T→kat T n≠[]∧vle out (kat T n)):qRb l (upd S out n):=by
 have hn':n<S.length:=by rw [h.len]; exact hn
 refine ⟨by rw [qLs]; exact h.len,fun i=>?_,?_,fun T hT i=>?_⟩
 ·rw [qHi S out n i hn']
  split
  ·split
   ·exact .inr ho
   ·rename_i e
    exact .inr (qCa _ ((h.wf n).resolve_left e))
  ·exact h.wf i
 ·have hb:=qVp hn' (h.wf n) ho 0
  rcases hb with hb | hb
  ·exact absurd hb h.init.1
  ·exact ⟨hb.1,qFn h.init.2 hb.2⟩
 ·rw [qHi S out n i hn']
  split
  ·rename_i e
   subst e
   have hT':=hl T hT
   split
   ·exact .inr hT'
   ·rename_i e
    have hb:=h.least T hT i
    rcases hb with hb | hb
    ·exact absurd hb e
    ·exact .inr ⟨hb.1,qMe hb.2 hT'.2⟩
  ·exact h.least T hT i
theorem qVr {l:List Ins} {S:KS} {a:Nat} (h:qRb l S) (ha:a<l.length) (hx:qJ2 (l.getD a default)) (hs:kat S a≠[]) (T:KS) (hT:qU3 l T) (n:Int) (hn:n∈vN l a):kat T n.toNat≠[]∧vle (cW (l.getD a default) (kat S a)) (kat T n.toNat):=by
 have hb:=h.least T hT a
 rcases hb with hb | hb
 ·exact absurd hb hs
 ·have he:=hT.edge a ha hb.1 n hn
  exact ⟨he.1,qFn (qLe hx ((h.wf a).resolve_left hs) ((hT.wf a).resolve_left hb.1) hb.2) he.2⟩
theorem qC9 {l:List Ins} (h:wN l 3=true) {a:Nat} (ha:a<l.length) :∀n∈vN l a,0≤n∧n.toNat<l.length:=by
 unfold wN at h
 simp only [qXa,qZ2,qXl,decide_eq_true_eq] at h
 obtain ⟨⟨⟨_,hl⟩,hall⟩,hlast⟩:=h
 have hx:=hall _ (jD l a default ha)
 have hnl:(l.getD a default).op≠13→(l.getD a default).op≠11→a+1<l.length:=fun h1 h2=>by
  apply Nat.lt_of_le_of_ne ha
  intro e
  have:l.length-1=a:=by omega
  unfold dS at hlast
  rw [this] at hlast
  rcases hlast with h3 | h3
  ·exact h1 h3
  ·exact h2 h3
 have hj:((l.getD a default).op=11∨(l.getD a default).op=12)→0≤(l.getD a default).n∧(l.getD a default).n<l.length:=fun ho=>by
  unfold yZ at hx
  rcases ho with ho | ho
  ·simp only [ho,qXa] at hx
   simp [-qXc] at hx
   omega
  ·simp only [ho,qXa] at hx
   simp [-qXc] at hx
   omega
 intro n hn
 unfold vN at hn
 simp only at hn
 generalize (l.getD a default)=x at *
 split at hn
 ·simp at hn
 ·rename_i h13
  split at hn
  ·rename_i h11
   have:=hj (.inl h11)
   simp at hn
   omega
  ·rename_i h11
   have hn1:=hnl h13 h11
   split at hn
   ·rename_i h12
    have:=hj (.inr h12)
    split at hn
    ·simp at hn
     omega
    ·split at hn
     ·simp at hn
      omega
     ·simp at hn
      omega
   ·simp at hn
    omega
theorem qR2 {l:List Ins} (h:wN l 3=true) {a:Nat} (ha:a<l.length):qJ2 (l.getD a default):=by
 unfold wN at h
 simp only [qXa,qZ2] at h
 exact qUk (h.1.2 _ (jD l a default ha))
theorem nN {l:List Ins} {ch:Int} (h:wN l ch=true):1≤l.length∧l.length≤24:=by
 unfold wN at h
 simp only [qXa,qK] at h
 omega
def qI7 (n:Nat):KS:=(qX4 n []).set 0 qOn
theorem qAg (n i:Nat) (h:0<n):kat (qI7 n) i=if i=0 then qOn else []:=by
 unfold qI7 kat
 rw [jG _ _ _ _ _ (by simpa using h)]
 split
 ·rfl
 ·simp [qXc,List.getElem?_replicate]
  split<;>rfl
theorem qMl {l:List Ins} (h:0<l.length):qRb l (qI7 l.length):=by
 refine ⟨by simp [qI7],fun i=>?_,?_,fun T hT i=>?_⟩
 ·rw [qAg _ _ h]
  split
  ·exact .inr qNp
  ·exact .inl rfl
 ·rw [qAg _ _ h,if_pos rfl]
  exact ⟨qFm qNp,qCl _⟩
 ·rw [qAg _ _ h]
  split
  ·rename_i e
   subst e
   exact .inr hT.init
  ·exact .inl rfl
theorem qSk {l:List Ins} (hb:wN l 3=true) :∀(m:Nat) (S:KS),qRb l S→mS S=m→∃K,qU4 l K:=by
 intro m
 induction m using Nat.strongRecOn with
 | ind m ih =>
  intro S hS hm
  by_cases he :∀a,a<l.length→EOk l S a
  ·exact ⟨S,hS,he⟩
  ·have ⟨a,ha⟩:=Classical.not_forall.1 he
   have ⟨ha1,ha2⟩:=Classical.not_imp.1 ha
   unfold EOk at ha2
   have ⟨hs,h3⟩:=Classical.not_imp.1 ha2
   have ⟨n,h4⟩:=Classical.not_forall.1 h3
   have ⟨hn,h5⟩:=Classical.not_imp.1 h4
   have hni:=(qC9 hb ha1 n hn).2
   have hwo:=qR5 (l.getD a default) ((hS.wf a).resolve_left hs)
   have hni':n.toNat<S.length:=by rw [hS.len]; exact hni
   have hd:qP4 S (cW (l.getD a default) (kat S a)) n.toNat=true:=by
    cases h6:qP4 S (cW (l.getD a default) (kat S a)) n.toNat with
    | true=>rfl
    | false =>
     have e:=qRh h6
     have hnew:=qU6 hni' (hS.wf n.toNat) hwo
     rw [e] at hnew
     exact absurd hnew h5
   have hmm:=(qRi hni' (hS.wf n.toNat) hwo).2 hd
   exact ih _ (by omega) _ (qU7 hS hni hwo fun T hT=>qVr hS ha1 (qR2 hb ha1) hs T hT n hn) rfl
theorem qDm {l:List Ins} (hb:wN l 3=true) :∃K,qU4 l K:=qSk hb _ _ (qMl (nN hb).1) rfl
end Go.Sep
