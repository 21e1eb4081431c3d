/- Contracts of functions. -/
import Derived.Test.YtfecojefbnnknaaLxx6
import Derived.Test.YtfecojefbnnknaaLxx7
open Bool renaming and_eq_true → qZu, or_eq_true → wA5
open List renaming all_eq_true → wBo, foldl_cons → wBq, getD_cons_succ → wBr, getD_eq_getElem?_getD → qZw, length_set → wBb, map_cons → qZr, mem_map → wBa, set_eq_of_length_le → wBp
namespace Go.Sep
set_option maxHeartbeats 16000000
open Go.Proofs
set_option linter.unusedSimpArgs false
set_option linter.unusedVariables false
set_option maxRecDepth 100000
structure bL where
 is_:Bool
 v:Int
 deriving DecidableEq,Inhabited
def nD (x:bL):List AV:=[.bool x.is_,.int .i64 x.v]
def uZ (l:List bL):List (List AV):=l.map nD
theorem qO5:uZ []=[]:=rfl
theorem iD (l:List bL):(uZ l).length=l.length:=by simp [uZ]
theorem qGg (l k:List bL):uZ l++uZ k=uZ (l++k):=by simp [uZ]
theorem qBx (l:List bL) (n:Nat):(uZ l).drop n=uZ (l.drop n):=by simp [uZ]
theorem qBw (l:List bL) (n:Nat):(uZ l).take n=uZ (l.take n):=by simp [uZ]
theorem qO4 (l:List bL) (i:Nat) (is__:Bool) (v_:Int):(uZ l).set i [.bool is__,.int .i64 v_]=uZ (l.set i ⟨is__,v_⟩):=by simp [uZ,nD]
theorem lA (A:Nat→Prop) (l:List bL):yQ A (uZ l)↔True:=by
 simp only [iff_true]
 induction l with
 | nil=>trivial
 | cons x l ih=>exact ⟨by simp [nD,jF,bnd,zG,yU,uA,jN,vJ,uE,uQ,vF,bW,gP,uX,eF],ih⟩
theorem oK (l:List bL):nbr (uZ l)↔True:=by
 simp only [iff_true]
 induction l with
 | nil=>trivial
 | cons x l ih=>exact ⟨by simp [nD,nbs,nb,vZ,bO,vL,bA,bJ,uY,vX,dL,dT,gA,iG],ih⟩
theorem iW :∀(l:List bL),bwR (uZ l)=uZ l
 | []=>rfl
 | x::l=>by
  have:=iW l
  simp only [uZ,qZr,bwR] at this⊢
  rw [this]
  simp [nD,bwL,bwC,uL,bE,jX,uO,bB,bH,vP,gU,dO,bG,fD]
theorem qM0 (l:List bL):free (uZ l)↔True:=by
 simp only [iff_true]
 intro r hr c hc
 simp only [uZ,wBa] at hr
 obtain ⟨x,_,rfl⟩:=hr
 simp [nD] at hc
 rcases hc with rfl | rfl<;>rfl
def vU (m:Mode) (l:List (List bL)):List (List AV):=l.map fun b=>[.sl m 2 (uZ b)]
theorem qLz (m:Mode):vU m []=[]:=rfl
theorem cX (m:Mode) (l:List (List bL)):(vU m l).length=l.length:=by simp [vU]
theorem qEq (m:Mode) (l k:List (List bL)):vU m l++vU m k=vU m (l++k):=by simp [vU]
theorem sV (m:Mode) (l:List (List bL)) (n:Nat):(vU m l).drop n=vU m (l.drop n):=by simp [vU]
theorem sU (m:Mode) (l:List (List bL)) (n:Nat):(vU m l).take n=vU m (l.take n):=by simp [vU]
theorem qLy (m:Mode) (l:List (List bL)) (i:Nat) (b_:List bL):(vU m l).set i [.sl m 2 (uZ b_)]=vU m (l.set i b_):=by simp [vU]
theorem nC (A:Nat→Prop) (m:Mode) (l:List (List bL)):yQ A (vU m l)↔True:=by
 simp only [iff_true]
 induction l with
 | nil=>trivial
 | cons x l ih=>exact ⟨by simp [jF,bnd,zG,yU,uA,jN,vJ,uE,uQ,vF,bW,gP,uX,eF,lA],ih⟩
theorem pZ (l:List (List bL)):nbr (vU .own l)↔True:=by
 simp only [iff_true]
 induction l with
 | nil=>trivial
 | cons x l ih=>exact ⟨by simp [nbs,nb,vZ,bO,vL,bA,bJ,uY,vX,dL,dT,gA,iG,oK],ih⟩
theorem kZ (m:Mode) :∀(l:List (List bL)),bwR (vU m l)=vU .bw l
 | []=>rfl
 | x::l=>by
  have:=kZ m l
  simp only [vU,qZr,bwR] at this⊢
  rw [this]
  simp [bwL,bwC,uL,bE,jX,uO,bB,bH,vP,gU,dO,bG,fD,iW]
theorem qJm (l:List (List bL)):free (vU .bw l)↔True:=by
 simp only [iff_true]
 intro r hr c hc
 simp only [vU,wBa] at hr
 obtain ⟨x,_,rfl⟩:=hr
 simp [] at hc
 rcases hc with rfl<;>rfl
def bN (m:Mode) (l:List (List bK)):List (List AV):=l.map fun b=>[.sl m 2 (yT b)]
theorem qNo (m:Mode):bN m []=[]:=rfl
theorem iB (m:Mode) (l:List (List bK)):(bN m l).length=l.length:=by simp [bN]
theorem qGe (m:Mode) (l k:List (List bK)):bN m l++bN m k=bN m (l++k):=by simp [bN]
theorem qBr (m:Mode) (l:List (List bK)) (n:Nat):(bN m l).drop n=bN m (l.drop n):=by simp [bN]
theorem qBq (m:Mode) (l:List (List bK)) (n:Nat):(bN m l).take n=bN m (l.take n):=by simp [bN]
theorem qNn (m:Mode) (l:List (List bK)) (i:Nat) (b_:List bK):(bN m l).set i [.sl m 2 (yT b_)]=bN m (l.set i b_):=by simp [bN]
theorem qEc (A:Nat→Prop) (m:Mode) (l:List (List bK)):yQ A (bN m l)↔True:=by
 simp only [iff_true]
 induction l with
 | nil=>trivial
 | cons x l ih=>exact ⟨by simp [jF,bnd,zG,yU,uA,jN,vJ,uE,uQ,vF,bW,gP,uX,eF,lA,nC],ih⟩
theorem qHf (l:List (List bK)):nbr (bN .own l)↔True:=by
 simp only [iff_true]
 induction l with
 | nil=>trivial
 | cons x l ih=>exact ⟨by simp [nbs,nb,vZ,bO,vL,bA,bJ,uY,vX,dL,dT,gA,iG,oK,pZ],ih⟩
theorem qAo (m:Mode) :∀(l:List (List bK)),bwR (bN m l)=bN .bw l
 | []=>rfl
 | x::l=>by
  have:=qAo m l
  simp only [bN,qZr,bwR] at this⊢
  rw [this]
  simp [bwL,bwC,uL,bE,jX,uO,bB,bH,vP,gU,dO,bG,fD,iW,kZ]
theorem qLg (l:List (List bK)):free (bN .bw l)↔True:=by
 simp only [iff_true]
 intro r hr c hc
 simp only [bN,wBa] at hr
 obtain ⟨x,_,rfl⟩:=hr
 simp [] at hc
 rcases hc with rfl<;>rfl
def jP (l:List Bool):List (List AV):=l.map fun b=>[.bool b]
theorem qOw:jP []=[]:=rfl
theorem iH (l:List Bool):(jP l).length=l.length:=by simp [jP]
theorem qGq (l k:List Bool):jP l++jP k=jP (l++k):=by simp [jP]
theorem qCi (l:List Bool) (n:Nat):(jP l).drop n=jP (l.drop n):=by simp [jP]
theorem qCh (l:List Bool) (n:Nat):(jP l).take n=jP (l.take n):=by simp [jP]
theorem qOv (l:List Bool) (i:Nat) (b_:Bool):(jP l).set i [.bool b_]=jP (l.set i b_):=by simp [jP]
theorem nR (l:List Bool) (i:Nat) (h:i<l.length):(jP l).getD i []=[.bool (l.getD i false)]:=by simp [jP,List.getD_eq_getElem?_getD,h]
theorem qFk (A:Nat→Prop) (l:List Bool):yQ A (jP l)↔True:=by
 simp only [iff_true]
 induction l with
 | nil=>trivial
 | cons x l ih=>exact ⟨by simp [jF,bnd,zG,yU,uA,jN,vJ,uE,uQ,vF,bW,gP,uX,eF,lA,nC,qEc],ih⟩
theorem qI9 (l:List Bool):nbr (jP l)↔True:=by
 simp only [iff_true]
 induction l with
 | nil=>trivial
 | cons x l ih=>exact ⟨by simp [nbs,nb,vZ,bO,vL,bA,bJ,uY,vX,dL,dT,gA,iG,oK,pZ,qHf],ih⟩
theorem qB8 :∀(l:List Bool),bwR (jP l)=jP l
 | []=>rfl
 | x::l=>by
  have:=qB8 l
  simp only [jP,qZr,bwR] at this⊢
  rw [this]
  simp [bwL,bwC,uL,bE,jX,uO,bB,bH,vP,gU,dO,bG,fD,iW,kZ,qAo]
theorem qMu (l:List Bool):free (jP l)↔True:=by
 simp only [iff_true]
 intro r hr c hc
 simp only [jP,wBa] at hr
 obtain ⟨x,_,rfl⟩:=hr
 simp [] at hc
 rcases hc with rfl<;>rfl
theorem fS3:((∀l,(uZ l).length=l.length)∧(∀m l,(vU m l).length=l.length)∧(∀m l,(bN m l).length=l.length)∧(∀l,(jP l).length=l.length)):=⟨by intros; simp [iD],by intros; simp [cX],by intros; simp [iB],by intros; simp [iH]⟩
attribute [go_sem] iD qGg qBx qBw qO4 nD cX qEq sV sU qLy iB qGe qBr qBq qNn iH qGq qCi qCh qOv
attribute [simp] qO5 iW lA oK iD qBw qBx qM0 qLz kZ nC pZ cX sU sV qJm qNo qAo qEc qHf iB qBq qBr qLg qOw qB8 qFk qI9 iH qCh qCi qMu nD
abbrev KV:=List bL
abbrev KS:=List KV
def kno:bL:=⟨false,0⟩
def uM (x:Ins):List Int:=if x.op=1∨x.op=2∨x.op=3∨x.op=4∨x.op=7 then [x.r] else if x.op=6∨x.op=8 then [x.r,x.b] else []
def qPj (op:Int):Bool:=decide (op=2)||decide (op=3)||decide (op=4)
def fE (x:Ins) (k:KV):KV :=
 let out:=(uM x).foldl (fun o r=>o.set r.toNat kno) k
 if x.op=1 then out.set x.r.toNat ⟨true,x.n⟩
 else if qPj x.op&&(k.getD x.a.toNat default).is_&&(k.getD x.b.toNat default).is_ then out.set x.r.toNat ⟨true,xJ x.op (k.getD x.a.toNat default).v (k.getD x.b.toNat default).v⟩
 else out
def nA (a b:bL):bL:=if a.is_&&!decide (a=b) then kno else a
def qUd (a b:bL):Bool:=a.is_&&!decide (a=b)
def gJ:KV→KV→KV
 | a::l,b::k=>nA a b::gJ l k
 | l,_=>l
def qBu:KV→KV→Bool
 | a::l,b::k=>qUd a b||qBu l k
 | _,_=>false
def jA (l:List Ins) (at_:Nat):List Int :=
 let x:Ins:=l.getD at_ default
 if x.op=13 then [] else if x.op=11 then [x.n]
 else if x.op=12 then (if x.n<(at_:Int)+1 then [x.n,(at_:Int)+1] else if (at_:Int)+1<x.n then [(at_:Int)+1,x.n] else [(at_:Int)+1])
 else [(at_:Int)+1]
def WfV (k:KV):Prop:=k.length=4∧∀a∈k,a.is_=false→a=kno
def kle (a b:bL):Prop:=b=kno∨a=b
def vle (a b:KV):Prop:=a.length=b.length∧∀i,i<a.length→kle (a.getD i default) (b.getD i default)
theorem nE (a:bL):kle a a:=.inr rfl
theorem qS5 {a b c:bL} (h:kle a b) (k:kle b c):kle a c:=by
 rcases k with rfl | rfl
 ·exact .inl rfl
 ·exact h
theorem qDh (a:KV):vle a a:=⟨rfl,fun _ _=>nE _⟩
theorem qGt {a b c:KV} (h:vle a b) (k:vle b c):vle a c:=⟨h.1.trans k.1,fun i hi=>qS5 (h.2 i hi) (k.2 i (h.1▸hi))⟩
theorem vS {α:Type} (l:List α) (i j:Nat) (a d:α) (hi:i<l.length):(l.set i a).getD j d=if j=i then a else l.getD j d:=by
 by_cases h:j=i
 ·subst h
  simp [qZw,hi]
 ·rw [if_neg h]
  simp [qZw,List.getElem?_set,show¬i=j from fun e=>h e.symm]
theorem qYq {k:KV} (h:WfV k) (i:Nat) (hk:(k.getD i default).is_=false):k.getD i default=kno:=by
 by_cases hi:i<k.length
 ·exact h.2 _ (yO k i default hi) hk
 ·rw [qZw,List.getElem?_eq_none (by omega)]
  rfl
theorem qNa {k:KV} (h:WfV k) (i:Nat) {a:bL} (ha:a.is_=false→a=kno):WfV (k.set i a):=by
 refine ⟨by rw [wBb]; exact h.1,fun b hb=>?_⟩
 rcases List.mem_or_eq_of_mem_set hb with hb | rfl
 ·exact h.2 b hb
 ·exact ha
theorem qP5:WfV [⟨true,0⟩,⟨true,0⟩,⟨true,0⟩,⟨true,0⟩]:=⟨rfl,fun a ha h=>by
 simp at ha
 subst ha
 simp at h⟩
structure qKg (x:Ins):Prop where
 r:0≤x.r∧x.r.toNat<4
 a:0≤x.a∧x.a.toNat<4
 b:0≤x.b∧x.b.toNat<4
theorem qWk {x:Ins} {pl ch:Int} (h:jE x pl ch=true):qKg x:=by
 unfold jE at h
 simp only [qZu,qK] at h
 obtain ⟨⟨⟨⟨h1,h2⟩,h3⟩,_⟩,_⟩:=h
 exact ⟨by omega,by omega,by omega⟩
theorem pH {k:KV} (h:WfV k) :∀(s:List Int) (o:KV),WfV o→WfV (s.foldl (fun o r=>o.set r.toNat kno) o)
 | [],o,ho=>ho
 | r::s,o,ho=>pH h s _ (qNa ho _ fun _=>rfl)
theorem qSv (x:Ins) {k:KV} (h:WfV k):WfV (fE x k):=by
 have hf:=pH h (uM x) k h
 unfold fE
 simp only
 split
 ·exact qNa hf _ (by simp)
 ·split
  ·exact qNa hf _ (by simp)
  ·exact hf
theorem qIq {a b:KV} (h:vle a b) (i:Nat) {c d:bL} (hc:kle c d):vle (a.set i c) (b.set i d):=by
 refine ⟨by simp [h.1],fun j hj=>?_⟩
 rw [wBb] at hj
 by_cases hi:i<a.length
 ·rw [vS _ _ _ _ _ hi,vS _ _ _ _ _ (h.1▸hi)]
  split
  ·exact hc
  ·exact h.2 j hj
 ·rw [wBp (by omega),wBp (by have:=h.1; omega)]
  exact h.2 j hj
theorem qKm :∀(s:List Int) {a b:KV},vle a b→vle (s.foldl (fun o r=>o.set r.toNat kno) a) (s.foldl (fun o r=>o.set r.toNat kno) b)
 | [],_,_,h=>h
 | r::s,_,_,h=>qKm s (qIq h _ (nE _))
theorem qPp :∀(s:List Int) (r:Int) (k:KV),r∈s→r.toNat<k.length→(s.foldl (fun o r=>o.set r.toNat kno) k).getD r.toNat default=kno
 | [],r,k,h,_=>by simp at h
 | q::s,r,k,h,hr=>by
  simp only [wBq]
  by_cases hs:r∈s
  ·exact qPp s r _ hs (by simpa using hr)
  ·have e:r=q:=by
    rcases List.mem_cons.1 h with h | h
    ·exact h
    ·exact absurd h hs
   subst e
   have hne :∀(t:List Int) (o:KV),o.getD r.toNat default=kno→r.toNat<o.length→(t.foldl (fun o r=>o.set r.toNat kno) o).getD r.toNat default=kno:=by
    intro t
    induction t with
    | nil=>intro o ho _; exact ho
    | cons p t ih =>
     intro o ho hl
     refine ih _ ?_ (by simpa using hl)
     by_cases hp:p.toNat<o.length
     ·rw [vS _ _ _ _ _ hp]
      split
      ·rfl
      ·exact ho
     ·have e:(fun (o:KV) (r:Int)=>o.set r.toNat kno) o p=o:=wBp (by omega)
      rw [e]
      exact ho
   exact hne s _ (by rw [vS _ _ _ _ _ hr,if_pos rfl]) (by simpa using hr)
theorem qMy {x:Ins} (hx:qKg x) {a b:KV} (ha:WfV a) (hb:WfV b) (h:vle a b):vle (fE x a) (fE x b):=by
 have hs:=qKm (uM x) h
 unfold fE
 simp only
 split
 ·exact qIq hs _ (nE _)
 ·have la:=h.2 x.a.toNat (by rw [ha.1]; exact hx.a.2)
  have lb:=h.2 x.b.toNat (by rw [ha.1]; exact hx.b.2)
  by_cases hk:qPj x.op&&(b.getD x.a.toNat default).is_&&(b.getD x.b.toNat default).is_
  ·have hk':=hk
   simp only [qZu] at hk'
   have ea:a.getD x.a.toNat default=b.getD x.a.toNat default:=by
    rcases la with e | e
    ·rw [e] at hk'; simp [kno] at hk'
    ·exact e
   have eb:a.getD x.b.toNat default=b.getD x.b.toNat default:=by
    rcases lb with e | e
    ·rw [e] at hk'; simp [kno] at hk'
    ·exact e
   rw [ea,eb,if_pos hk,if_pos hk]
   exact qIq hs _ (nE _)
  ·rw [if_neg hk]
   split
   ·rename_i ht
    simp only [qZu] at ht
    have h3:x.r∈uM x:=by
     have:=ht.1.1
     unfold qPj at this
     simp at this
     unfold uM
     rw [if_pos (by omega)]
     simp
    have hz:=qPp (uM x) x.r b h3 (by rw [hb.1]; exact hx.r.2)
    have hlen :∀(s:List Int) (o:KV),(s.foldl (fun o r=>o.set r.toNat kno) o).length=o.length:=by
     intro s
     induction s with
     | nil=>intro o; rfl
     | cons p s ih=>intro o; simp only [wBq]; rw [ih]; simp
    refine ⟨by simp [hlen,h.1],fun j hj=>?_⟩
    rw [wBb] at hj
    have hj0:x.r.toNat<((uM x).foldl (fun o r=>o.set r.toNat kno) a).length:=by rw [hlen,ha.1]; exact hx.r.2
    rw [vS _ _ _ _ _ hj0]
    split
    ·rename_i e
     rw [e,hz]
     exact .inl rfl
    ·exact hs.2 j hj
   ·exact hs
theorem zP :∀(a b:KV),(gJ a b).length=a.length
 | [],_=>by simp [gJ]
 | _::_,[]=>by simp [gJ]
 | a::l,b::k=>by simp [gJ,zP l k]
theorem sP :∀(a b:KV) (i:Nat),i<a.length→i<b.length→(gJ a b).getD i default=nA (a.getD i default) (b.getD i default)
 | [],_,i,h,_=>by simp at h
 | _::_,[],i,_,h=>by simp at h
 | a::l,b::k,0,_,_=>by simp [gJ]
 | a::l,b::k,i+1,h,g=>by
  simp only [gJ,wBr]
  exact sP l k i (by simpa using h) (by simpa using g)
theorem qD5 {a:KV} (b:KV) (ha:WfV a):WfV (gJ a b):=by
 refine ⟨by rw [zP]; exact ha.1,?_⟩
 have :∀(a b:KV),(∀x∈a,x.is_=false→x=kno)→∀x∈gJ a b,x.is_=false→x=kno:=by
  intro a
  induction a with
  | nil=>intro b _ x hx; simp [gJ] at hx
  | cons c l ih =>
   intro b h
   cases b with
   | nil=>simpa [gJ] using h
   | cons d k =>
    intro x hx hf
    simp only [gJ] at hx
    rcases List.mem_cons.1 hx with rfl | hx
    ·unfold nA at hf⊢
     split
     ·rfl
     ·rename_i hc
      rw [if_neg hc] at hf
      exact h c (by simp) hf
    ·exact ih k (fun y hy=>h y (by simp [hy])) x hx hf
 exact this a b ha.2
theorem qU6 {a b:KV} (ha:WfV a) (hb:WfV b):vle a (gJ a b):=by
 refine ⟨(zP a b).symm,fun i hi=>?_⟩
 rw [sP a b i hi (by rw [hb.1,←ha.1]; exact hi)]
 unfold nA
 split
 ·exact .inl rfl
 ·exact nE _
theorem qU5 {a b:KV} (ha:WfV a) (hb:WfV b):vle b (gJ a b):=by
 refine ⟨by rw [zP,ha.1,hb.1],fun i hi=>?_⟩
 have hia:i<a.length:=by rw [ha.1,←hb.1]; exact hi
 rw [sP a b i hia hi]
 unfold nA
 split
 ·exact .inl rfl
 ·rename_i hc
  cases hk:(a.getD i default).is_ with
  | false=>rw [qYq ha i hk]; exact .inl rfl
  | true =>
   rw [hk] at hc
   simp only [Bool.true_and,Bool.not_eq_true',decide_eq_false_iff_not,Decidable.not_not] at hc
   exact .inr hc.symm
theorem qNw {a b c:KV} (ha:vle a c) (hb:vle b c):vle (gJ a b) c:=by
 refine ⟨by rw [zP]; exact ha.1,fun i hi=>?_⟩
 rw [zP] at hi
 have hib:i<b.length:=by rw [hb.1,←ha.1]; exact hi
 rw [sP a b i hi hib]
 unfold nA
 split
 ·rename_i hc
  simp only [qZu,Bool.not_eq_true',decide_eq_false_iff_not] at hc
  rcases ha.2 i hi with e | e
  ·exact .inl e
  ·rcases hb.2 i hib with e' | e'
   ·exact .inl e'
   ·exact absurd (e.trans e'.symm) hc.2
 ·exact ha.2 i hi
theorem qEm :∀{a b:KV},qBu a b=false→gJ a b=a
 | [],_,_=>by simp [gJ]
 | _::_,[],_=>by simp [gJ]
 | a::l,b::k,h=>by
  simp only [qBu,Bool.or_eq_false_iff] at h
  simp only [gJ,qEm h.2]
  unfold nA
  have:=h.1
  unfold qUd at this
  rw [if_neg (by rw [this]; simp)]
def cnt:KV→Nat
 | []=>0
 | a::l=>(if a.is_ then 1 else 0)+cnt l
theorem qVf :∀(a:KV),cnt a≤a.length
 | []=>by simp [cnt]
 | a::l=>by
  have:=qVf l
  simp only [cnt,List.length_cons]
  split<;>omega
theorem qLl :∀(a b:KV),cnt (gJ a b)≤cnt a∧(qBu a b=true→cnt (gJ a b)<cnt a)
 | [],_=>by simp [gJ,qBu,cnt]
 | _::_,[]=>by simp [gJ,qBu]
 | a::l,b::k=>by
  have ih:=qLl l k
  have h1:(if (nA a b).is_ then 1 else 0)≤(if a.is_ then 1 else 0:Nat):=by
   unfold nA
   split
   ·simp [kno]
   ·exact Nat.le_refl _
  simp only [gJ,qBu,cnt]
  refine ⟨by have:=ih.1; omega,fun h=>?_⟩
  rw [wA5] at h
  rcases h with h | h
  ·have h2:(if (nA a b).is_ then 1 else 0)<(if a.is_ then 1 else 0:Nat):=by
    unfold qUd at h
    unfold nA
    rw [if_pos h]
    simp only [qZu] at h
    simp [kno,h.1]
   have:=ih.1
   omega
  ·have:=ih.2 h
   omega
def qM1:KV:=[⟨true,0⟩,⟨true,0⟩,⟨true,0⟩,⟨true,0⟩]
def bl (a b:KV):Prop:=a=[]∨(b≠[]∧vle a b)
theorem qXf (a:KV):bl a a:=by
 by_cases h:a=[]
 ·exact .inl h
 ·exact .inr ⟨h,qDh a⟩
abbrev kat (S:KS) (i:Nat):KV:=S.getD i []
def EOk (l:List Ins) (S:KS) (a:Nat):Prop:=kat S a≠[]→∀n∈jA l a,kat S n.toNat≠[]∧vle (fE (l.getD a default) (kat S a)) (kat S n.toNat)
structure qW0 (l:List Ins) (T:KS):Prop where
 len:T.length=l.length
 wf :∀i,kat T i=[]∨WfV (kat T i)
 init:kat T 0≠[]∧vle qM1 (kat T 0)
 edge :∀a,a<l.length→EOk l T a
structure qT2 (l:List Ins) (S:KS):Prop where
 len:S.length=l.length
 wf :∀i,kat S i=[]∨WfV (kat S i)
 init:kat S 0≠[]∧vle qM1 (kat S 0)
 least :∀T,qW0 l T→∀i,bl (kat S i) (kat T i)
structure qW1 (l:List Ins) (S:KS):Prop where
 inv:qT2 l S
 edge :∀a,a<l.length→EOk l S a
def upd (S:KS) (out:KV) (n:Nat):KS:=S.set n (if kat S n=[] then out else gJ (kat S n) out)
def qQq (S:KS) (out:KV) (n:Nat):Bool:=decide (kat S n=[])||qBu (kat S n) out
theorem qIs (S:KS) (out:KV) (n i:Nat) (h:n<S.length):kat (upd S out n) i=if i=n then (if kat S n=[] then out else gJ (kat S n) out) else kat S i:=vS _ _ _ _ _ h
theorem qNc (S:KS) (out:KV) (n:Nat):(upd S out n).length=S.length:=wBb
theorem qGs {a:KV} (h:WfV a):a≠[]:=fun e=>by have:=h.1; rw [e] at this; simp at this
theorem qY2 {S:KS} {out:KV} {n:Nat} (hn:n<S.length) (hw:kat S n=[]∨WfV (kat S n)) (ho:WfV out) (i:Nat):bl (kat S i) (kat (upd S out n) i):=by
 rw [qIs S out n i hn]
 split
 ·rename_i e
  subst e
  split
  ·rename_i h; exact .inl h
  ·rename_i h
   have hw':WfV (kat S i):=hw.resolve_left h
   exact .inr ⟨qGs (qD5 _ hw'),qU6 hw' ho⟩
 ·exact qXf _
theorem qW4 {S:KS} {out:KV} {n:Nat} (hn:n<S.length) (hw:kat S n=[]∨WfV (kat S n)) (ho:WfV out):kat (upd S out n) n≠[]∧vle out (kat (upd S out n) n):=by
 rw [qIs S out n n hn,if_pos rfl]
 split
 ·exact ⟨qGs ho,qDh _⟩
 ·rename_i h
  have hw':WfV (kat S n):=hw.resolve_left h
  exact ⟨qGs (qD5 _ hw'),qU5 hw' ho⟩
theorem qT8 {S:KS} {out:KV} {n:Nat} (h:qQq S out n=false):upd S out n=S:=by
 unfold qQq at h
 simp only [Bool.or_eq_false_iff,decide_eq_false_iff_not] at h
 unfold upd
 rw [if_neg h.1,qEm h.2]
 by_cases hn:n<S.length
 ·apply List.ext_getElem (by simp)
  intro i h1 h2
  rw [List.getElem_set]
  split
  ·rename_i e
   subst e
   simp [kat,qZw,hn]
  ·rfl
 ·exact wBp (by omega)
def wS (v:KV):Nat:=if v=[] then 5 else cnt v
def mS (S:KS):Nat:=pQ wS S
theorem qKr {α:Type} (w:α→Nat) (d:α) :∀(l:List α) (i:Nat) (a:α),i<l.length→pQ w (l.set i a)+w (l.getD i d)=pQ w l+w a
 | [],i,a,h=>by simp at h
 | x::l,0,a,h=>by simp [pQ]; omega
 | x::l,i+1,a,h=>by
  have:=qKr w d l i a (by simpa using h)
  simp only [List.set_cons_succ,pQ,wBr]
  omega
theorem qT9 {S:KS} {out:KV} {n:Nat} (hn:n<S.length) (hw:kat S n=[]∨WfV (kat S n)) (ho:WfV out):mS (upd S out n)≤mS S∧(qQq S out n=true→mS (upd S out n)<mS S):=by
 have ht:=qKr wS [] S n (if kat S n=[] then out else gJ (kat S n) out) hn
 have e:pQ wS (upd S out n)=mS (upd S out n):=rfl
 have hk:S.getD n []=kat S n:=rfl
 unfold upd at e⊢
 unfold qQq mS at *
 rw [hk] at ht
 by_cases h:kat S n=[]
 ·rw [if_pos h] at ht⊢
  have h1:wS (kat S n)=5:=by unfold wS; rw [if_pos h]
  have h2:wS out≤4:=by unfold wS; rw [if_neg (qGs ho)]; have:=qVf out; rw [ho.1] at this; exact this
  exact ⟨by omega,fun _=>by omega⟩
 ·rw [if_neg h] at ht⊢
  have hw':WfV (kat S n):=hw.resolve_left h
  have h1:wS (kat S n)=cnt (kat S n):=by unfold wS; rw [if_neg h]
  have h2:wS (gJ (kat S n) out)=cnt (gJ (kat S n) out):=by unfold wS; rw [if_neg (qGs (qD5 _ hw'))]
  have hm:=qLl (kat S n) out
  refine ⟨by have:=hm.1; omega,fun hd=>?_⟩
  rw [wA5] at hd
  rcases hd with hd | hd
  ·exact absurd (by simpa using hd) h
  ·have:=hm.2 hd
   omega
theorem qW5 {l:List Ins} {S:KS} {out:KV} {n:Nat} (h:qT2 l S) (hn:n<l.length) (ho:WfV out) (hl :∀T,qW0 l T→kat T n≠[]∧vle out (kat T n)):qT2 l (upd S out n):=by
 have hn':n<S.length:=by rw [h.len]; exact hn
 refine ⟨by rw [qNc]; exact h.len,fun i=>?_,?_,fun T hT i=>?_⟩
 ·rw [qIs S out n i hn']
  split
  ·split
   ·exact .inr ho
   ·rename_i e
    exact .inr (qD5 _ ((h.wf n).resolve_left e))
  ·exact h.wf i
 ·have hb:=qY2 hn' (h.wf n) ho 0
  rcases hb with hb | hb
  ·exact absurd hb h.init.1
  ·exact ⟨hb.1,qGt h.init.2 hb.2⟩
 ·rw [qIs S out n i hn']
  split
  ·rename_i e
   subst e
   have hT':=hl T hT
   split
   ·exact .inr hT'
   ·rename_i e
    have hb:=h.least T hT i
    rcases hb with hb | hb
    ·exact absurd hb e
    ·exact .inr ⟨hb.1,qNw hb.2 hT'.2⟩
  ·exact h.least T hT i
theorem qY6 {l:List Ins} {S:KS} {a:Nat} (h:qT2 l S) (ha:a<l.length) (hx:qKg (l.getD a default)) (hs:kat S a≠[]) (T:KS) (hT:qW0 l T) (n:Int) (hn:n∈jA l a):kat T n.toNat≠[]∧vle (fE (l.getD a default) (kat S a)) (kat T n.toNat):=by
 have hb:=h.least T hT a
 rcases hb with hb | hb
 ·exact absurd hb hs
 ·have he:=hT.edge a ha hb.1 n hn
  exact ⟨he.1,qGt (qMy hx ((h.wf a).resolve_left hs) ((hT.wf a).resolve_left hb.1) hb.2) he.2⟩
theorem aH {l:List Ins} (h:wJ l 3=true) {a:Nat} (ha:a<l.length) :∀n∈jA l a,0≤n∧n.toNat<l.length:=by
 unfold wJ at h
 simp only [qZu,wBo,wA5,decide_eq_true_eq] at h
 obtain ⟨⟨⟨_,hl⟩,hall⟩,hlast⟩:=h
 have hx:=hall _ (yO l a default ha)
 have hnl:(l.getD a default).op≠13→(l.getD a default).op≠11→a+1<l.length:=fun h1 h2=>by
  apply Nat.lt_of_le_of_ne ha
  intro e
  have:l.length-1=a:=by omega
  unfold zW at hlast
  rw [this] at hlast
  rcases hlast with h3 | h3
  ·exact h1 h3
  ·exact h2 h3
 have hj:((l.getD a default).op=11∨(l.getD a default).op=12)→0≤(l.getD a default).n∧(l.getD a default).n<l.length:=fun ho=>by
  unfold jE at hx
  rcases ho with ho | ho
  ·simp only [ho,qZu] at hx
   simp [-qZw] at hx
   omega
  ·simp only [ho,qZu] at hx
   simp [-qZw] at hx
   omega
 intro n hn
 unfold jA at hn
 simp only at hn
 generalize (l.getD a default)=x at *
 split at hn
 ·simp at hn
 ·rename_i h13
  split at hn
  ·rename_i h11
   have:=hj (.inl h11)
   simp at hn
   omega
  ·rename_i h11
   have hn1:=hnl h13 h11
   split at hn
   ·rename_i h12
    have:=hj (.inr h12)
    split at hn
    ·simp at hn
     omega
    ·split at hn
     ·simp at hn
      omega
     ·simp at hn
      omega
   ·simp at hn
    omega
theorem qIa {l:List Ins} (h:wJ l 3=true) {a:Nat} (ha:a<l.length):qKg (l.getD a default):=by
 unfold wJ at h
 simp only [qZu,wBo] at h
 exact qWk (h.1.2 _ (yO l a default ha))
theorem kA {l:List Ins} {ch:Int} (h:wJ l ch=true):1≤l.length∧l.length≤24:=by
 unfold wJ at h
 simp only [qZu,qK] at h
 omega
def qJl (n:Nat):KS:=(List.replicate n []).set 0 qM1
theorem qAu (n i:Nat) (h:0<n):kat (qJl n) i=if i=0 then qM1 else []:=by
 unfold qJl kat
 rw [vS _ _ _ _ _ (by simpa using h)]
 split
 ·rfl
 ·simp [qZw,List.getElem?_replicate]
  split<;>rfl
theorem qO3 {l:List Ins} (h:0<l.length):qT2 l (qJl l.length):=by
 refine ⟨by simp [qJl],fun i=>?_,?_,fun T hT i=>?_⟩
 ·rw [qAu _ _ h]
  split
  ·exact .inr qP5
  ·exact .inl rfl
 ·rw [qAu _ _ h,if_pos rfl]
  exact ⟨qGs qP5,qDh _⟩
 ·rw [qAu _ _ h]
  split
  ·rename_i e
   subst e
   exact .inr hT.init
  ·exact .inl rfl
theorem qUc {l:List Ins} (hb:wJ l 3=true) :∀(m:Nat) (S:KS),qT2 l S→mS S=m→∃K,qW1 l K:=by
 intro m
 induction m using Nat.strongRecOn with
 | ind m ih =>
  intro S hS hm
  by_cases he :∀a,a<l.length→EOk l S a
  ·exact ⟨S,hS,he⟩
  ·have ⟨a,ha⟩:=Classical.not_forall.1 he
   have ⟨ha1,ha2⟩:=Classical.not_imp.1 ha
   unfold EOk at ha2
   have ⟨hs,h3⟩:=Classical.not_imp.1 ha2
   have ⟨n,h4⟩:=Classical.not_forall.1 h3
   have ⟨hn,h5⟩:=Classical.not_imp.1 h4
   have hni:=(aH hb ha1 n hn).2
   have hwo:=qSv (l.getD a default) ((hS.wf a).resolve_left hs)
   have hni':n.toNat<S.length:=by rw [hS.len]; exact hni
   have hd:qQq S (fE (l.getD a default) (kat S a)) n.toNat=true:=by
    cases h6:qQq S (fE (l.getD a default) (kat S a)) n.toNat with
    | true=>rfl
    | false =>
     have e:=qT8 h6
     have hnew:=qW4 hni' (hS.wf n.toNat) hwo
     rw [e] at hnew
     exact absurd hnew h5
   have hmm:=(qT9 hni' (hS.wf n.toNat) hwo).2 hd
   exact ih _ (by omega) _ (qW5 hS hni hwo fun T hT=>qY6 hS ha1 (qIa hb ha1) hs T hT n hn) rfl
theorem qEl {l:List Ins} (hb:wJ l 3=true) :∃K,qW1 l K:=qUc hb _ _ (qO3 (kA hb).1) rfl
end Go.Sep
