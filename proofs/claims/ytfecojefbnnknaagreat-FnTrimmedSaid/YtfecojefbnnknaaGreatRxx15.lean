/- Contracts of functions. -/
import Derived.Test.YtfecojefbnnknaaGreatRxx6
import Derived.Test.YtfecojefbnnknaaGreatRxx7
open Bool renaming and_eq_true → wBp, or_eq_true → wC0
open List renaming all_eq_true → wDj, foldl_cons → wDl, getD_cons_succ → wDm, getD_eq_getElem?_getD → wBr, length_set → wD6, map_cons → wBm, mem_map → wD5, replicate → wBj, set_eq_of_length_le → wDk
namespace Go.Sep
set_option maxHeartbeats 16000000
open Go.Proofs
set_option linter.unusedSimpArgs false
set_option linter.unusedVariables false
set_option maxRecDepth 100000
structure bQ where
 is_:Bool
 v:Int
 deriving DecidableEq,Inhabited
def oS (x:bQ):List AV:=[.bool x.is_,.int .i64 x.v]
def bC (l:List bQ):List (List AV):=l.map oS
theorem qQ9:bC []=[]:=rfl
theorem kI (l:List bQ):(bC l).length=l.length:=by simp [bC]
theorem qHq (l k:List bQ):bC l++bC k=bC (l++k):=by simp [bC]
theorem qCz (l:List bQ) (n:Nat):(bC l).drop n=bC (l.drop n):=by simp [bC]
theorem qCy (l:List bQ) (n:Nat):(bC l).take n=bC (l.take n):=by simp [bC]
theorem qQ8 (l:List bQ) (i:Nat) (is__:Bool) (v_:Int):(bC l).set i [.bool is__,.int .i64 v_]=bC (l.set i ⟨is__,v_⟩):=by simp [bC,oS]
theorem mI (A:Nat→Prop) (l:List bQ):yW A (bC l)↔True:=by
 simp only [iff_true]
 induction l with
 | nil=>trivial
 | cons x l ih=>exact ⟨by simp [oS,jK,bnd,zM,yZ,uG,jU,vM,uK,uU,vK,gC,gW,bA,eS],ih⟩
theorem rB (l:List bQ):nbr (bC l)↔True:=by
 simp only [iff_true]
 induction l with
 | nil=>trivial
 | cons x l ih=>exact ⟨by simp [oS,nbs,nb,uF,bW,vO,bD,bO,bB,uB,dT,zB,gG,kM],ih⟩
theorem lE :∀(l:List bQ),bwR (bC l)=bC l
 | []=>rfl
 | x::l=>by
  have:=lE l
  simp only [bC,wBm,bwR] at this⊢
  rw [this]
  simp [oS,bwL,bwC,uQ,bJ,vE,uS,bE,bN,vT,gZ,dX,bL,hB]
theorem qNt (l:List bQ):free (bC l)↔True:=by
 simp only [iff_true]
 intro r hr c hc
 simp only [bC,wD5] at hr
 obtain ⟨x,_,rfl⟩:=hr
 simp [oS] at hc
 rcases hc with rfl | rfl<;>rfl
def vX (m:Mode) (l:List (List bQ)):List (List AV):=l.map fun b=>[.sl m 2 (bC b)]
theorem qNs (m:Mode):vX m []=[]:=rfl
theorem fQ (m:Mode) (l:List (List bQ)):(vX m l).length=l.length:=by simp [vX]
theorem qFw (m:Mode) (l k:List (List bQ)):vX m l++vX m k=vX m (l++k):=by simp [vX]
theorem qAg (m:Mode) (l:List (List bQ)) (n:Nat):(vX m l).drop n=vX m (l.drop n):=by simp [vX]
theorem qAf (m:Mode) (l:List (List bQ)) (n:Nat):(vX m l).take n=vX m (l.take n):=by simp [vX]
theorem qNr (m:Mode) (l:List (List bQ)) (i:Nat) (b_:List bQ):(vX m l).set i [.sl m 2 (bC b_)]=vX m (l.set i b_):=by simp [vX]
theorem oR (A:Nat→Prop) (m:Mode) (l:List (List bQ)):yW A (vX m l)↔True:=by
 simp only [iff_true]
 induction l with
 | nil=>trivial
 | cons x l ih=>exact ⟨by simp [jK,bnd,zM,yZ,uG,jU,vM,uK,uU,vK,gC,gW,bA,eS,mI],ih⟩
theorem sS (l:List (List bQ)):nbr (vX .own l)↔True:=by
 simp only [iff_true]
 induction l with
 | nil=>trivial
 | cons x l ih=>exact ⟨by simp [nbs,nb,uF,bW,vO,bD,bO,bB,uB,dT,zB,gG,kM,rB],ih⟩
theorem mH (m:Mode) :∀(l:List (List bQ)),bwR (vX m l)=vX .bw l
 | []=>rfl
 | x::l=>by
  have:=mH m l
  simp only [vX,wBm,bwR] at this⊢
  rw [this]
  simp [bwL,bwC,uQ,bJ,vE,uS,bE,bN,vT,gZ,dX,bL,hB,lE]
theorem qLa (l:List (List bQ)):free (vX .bw l)↔True:=by
 simp only [iff_true]
 intro r hr c hc
 simp only [vX,wD5] at hr
 obtain ⟨x,_,rfl⟩:=hr
 simp [] at hc
 rcases hc with rfl<;>rfl
def bV (m:Mode) (l:List (List bP)):List (List AV):=l.map fun b=>[.sl m 2 (yY b)]
theorem qPs (m:Mode):bV m []=[]:=rfl
theorem kG (m:Mode) (l:List (List bP)):(bV m l).length=l.length:=by simp [bV]
theorem qHo (m:Mode) (l k:List (List bP)):bV m l++bV m k=bV m (l++k):=by simp [bV]
theorem qCu (m:Mode) (l:List (List bP)) (n:Nat):(bV m l).drop n=bV m (l.drop n):=by simp [bV]
theorem qCt (m:Mode) (l:List (List bP)) (n:Nat):(bV m l).take n=bV m (l.take n):=by simp [bV]
theorem qPr (m:Mode) (l:List (List bP)) (i:Nat) (b_:List bP):(bV m l).set i [.sl m 2 (yY b_)]=bV m (l.set i b_):=by simp [bV]
theorem qFk (A:Nat→Prop) (m:Mode) (l:List (List bP)):yW A (bV m l)↔True:=by
 simp only [iff_true]
 induction l with
 | nil=>trivial
 | cons x l ih=>exact ⟨by simp [jK,bnd,zM,yZ,uG,jU,vM,uK,uU,vK,gC,gW,bA,eS,mI,oR],ih⟩
theorem qIs (l:List (List bP)):nbr (bV .own l)↔True:=by
 simp only [iff_true]
 induction l with
 | nil=>trivial
 | cons x l ih=>exact ⟨by simp [nbs,nb,uF,bW,vO,bD,bO,bB,uB,dT,zB,gG,kM,rB,sS],ih⟩
theorem qBv (m:Mode) :∀(l:List (List bP)),bwR (bV m l)=bV .bw l
 | []=>rfl
 | x::l=>by
  have:=qBv m l
  simp only [bV,wBm,bwR] at this⊢
  rw [this]
  simp [bwL,bwC,uQ,bJ,vE,uS,bE,bN,vT,gZ,dX,bL,hB,lE,mH]
theorem qN7 (l:List (List bP)):free (bV .bw l)↔True:=by
 simp only [iff_true]
 intro r hr c hc
 simp only [bV,wD5] at hr
 obtain ⟨x,_,rfl⟩:=hr
 simp [] at hc
 rcases hc with rfl<;>rfl
def jA (l:List Bool):List (List AV):=l.map fun b=>[.bool b]
theorem qR3:jA []=[]:=rfl
theorem kN (l:List Bool):(jA l).length=l.length:=by simp [jA]
theorem qI1 (l k:List Bool):jA l++jA k=jA (l++k):=by simp [jA]
theorem qDk (l:List Bool) (n:Nat):(jA l).drop n=jA (l.drop n):=by simp [jA]
theorem qDj (l:List Bool) (n:Nat):(jA l).take n=jA (l.take n):=by simp [jA]
theorem tH (n:Nat) (b_:Bool):List.replicate n [.bool b_]=jA (List.replicate n b_):=by simp [jA]
theorem tG (l:List Bool) (i:Nat) (b_:Bool):(jA l).set i [.bool b_]=jA (l.set i b_):=by simp [jA]
theorem zR (l:List Bool) (i:Nat) (h:i<l.length):(jA l).getD i []=[.bool (l.getD i false)]:=by simp [jA,List.getD_eq_getElem?_getD,h]
theorem qGp (A:Nat→Prop) (l:List Bool):yW A (jA l)↔True:=by
 simp only [iff_true]
 induction l with
 | nil=>trivial
 | cons x l ih=>exact ⟨by simp [jK,bnd,zM,yZ,uG,jU,vM,uK,uU,vK,gC,gW,bA,eS,mI,oR,qFk],ih⟩
theorem qJv (l:List Bool):nbr (jA l)↔True:=by
 simp only [iff_true]
 induction l with
 | nil=>trivial
 | cons x l ih=>exact ⟨by simp [nbs,nb,uF,bW,vO,bD,bO,bB,uB,dT,zB,gG,kM,rB,sS,qIs],ih⟩
theorem qCc :∀(l:List Bool),bwR (jA l)=jA l
 | []=>rfl
 | x::l=>by
  have:=qCc l
  simp only [jA,wBm,bwR] at this⊢
  rw [this]
  simp [bwL,bwC,uQ,bJ,vE,uS,bE,bN,vT,gZ,dX,bL,hB,lE,mH,qBv]
theorem qOu (l:List Bool):free (jA l)↔True:=by
 simp only [iff_true]
 intro r hr c hc
 simp only [jA,wD5] at hr
 obtain ⟨x,_,rfl⟩:=hr
 simp [] at hc
 rcases hc with rfl<;>rfl
theorem fS3:((∀l,(bC l).length=l.length)∧(∀m l,(vX m l).length=l.length)∧(∀m l,(bV m l).length=l.length)∧(∀l,(jA l).length=l.length)):=⟨by intros; simp [kI],by intros; simp [fQ],by intros; simp [kG],by intros; simp [kN]⟩
attribute [go_sem] kI qHq qCz qCy qQ8 oS fQ qFw qAg qAf qNr kG qHo qCu qCt qPr kN qI1 qDk qDj tG
attribute [simp] qQ9 lE mI rB kI qCy qCz qNt qNs mH oR sS fQ qAf qAg qLa qPs qBv qFk qIs kG qCt qCu qN7 qR3 qCc qGp qJv kN qDj qDk qOu oS
abbrev KV:=List bQ
abbrev KS:=List KV
def kno:bQ:=⟨false,0⟩
def uR (x:Ins):List Int:=if x.op=1∨x.op=2∨x.op=3∨x.op=4∨x.op=7 then [x.r] else if x.op=6∨x.op=8 then [x.r,x.b] else []
def nO (op:Int):Bool:=decide (op=2)||decide (op=3)||decide (op=4)
def hO (x:Ins) (k:KV):KV :=
 let out:=(uR x).foldl (fun o r=>o.set r.toNat kno) k
 if x.op=1 then out.set x.r.toNat ⟨true,x.n⟩
 else if nO x.op&&(k.getD x.a.toNat default).is_&&(k.getD x.b.toNat default).is_ then out.set x.r.toNat ⟨true,xZ x.op (k.getD x.a.toNat default).v (k.getD x.b.toNat default).v⟩
 else out
def oM (a b:bQ):bQ:=if a.is_&&!decide (a=b) then kno else a
def qWa (a b:bQ):Bool:=a.is_&&!decide (a=b)
def gM:KV→KV→KV
 | a::l,b::k=>oM a b::gM l k
 | l,_=>l
def qCx:KV→KV→Bool
 | a::l,b::k=>qWa a b||qCx l k
 | _,_=>false
def yO (l:List Ins) (at_:Nat):List Int :=
 let x:Ins:=l.getD at_ default
 if x.op=13 then [] else if x.op=11 then [x.n]
 else if x.op=12 then (if x.n<(at_:Int)+1 then [x.n,(at_:Int)+1] else if (at_:Int)+1<x.n then [(at_:Int)+1,x.n] else [(at_:Int)+1])
 else [(at_:Int)+1]
def WfV (k:KV):Prop:=k.length=4∧∀a∈k,a.is_=false→a=kno
def kle (a b:bQ):Prop:=b=kno∨a=b
def vle (a b:KV):Prop:=a.length=b.length∧∀i,i<a.length→kle (a.getD i default) (b.getD i default)
theorem oT (a:bQ):kle a a:=.inr rfl
theorem qU3 {a b c:bQ} (h:kle a b) (k:kle b c):kle a c:=by
 rcases k with rfl | rfl
 ·exact .inl rfl
 ·exact h
theorem qEm (a:KV):vle a a:=⟨rfl,fun _ _=>oT _⟩
theorem qI4 {a b c:KV} (h:vle a b) (k:vle b c):vle a c:=⟨h.1.trans k.1,fun i hi=>qU3 (h.2 i hi) (k.2 i (h.1▸hi))⟩
theorem jL {α:Type} (l:List α) (i j:Nat) (a d:α) (hi:i<l.length):(l.set i a).getD j d=if j=i then a else l.getD j d:=by
 by_cases h:j=i
 ·subst h
  simp [wBr,hi]
 ·rw [if_neg h]
  simp [wBr,List.getElem?_set,show¬i=j from fun e=>h e.symm]
theorem wAl {k:KV} (h:WfV k) (i:Nat) (hk:(k.getD i default).is_=false):k.getD i default=kno:=by
 by_cases hi:i<k.length
 ·exact h.2 _ (yB k i default hi) hk
 ·rw [wBr,List.getElem?_eq_none (by omega)]
  rfl
theorem qPd {k:KV} (h:WfV k) (i:Nat) {a:bQ} (ha:a.is_=false→a=kno):WfV (k.set i a):=by
 refine ⟨by rw [wD6]; exact h.1,fun b hb=>?_⟩
 rcases List.mem_or_eq_of_mem_set hb with hb | rfl
 ·exact h.2 b hb
 ·exact ha
theorem qRa:WfV [⟨true,0⟩,⟨true,0⟩,⟨true,0⟩,⟨true,0⟩]:=⟨rfl,fun a ha h=>by
 simp at ha
 subst ha
 simp at h⟩
structure qM3 (x:Ins):Prop where
 r:0≤x.r∧x.r.toNat<4
 a:0≤x.a∧x.a.toNat<4
 b:0≤x.b∧x.b.toNat<4
theorem qYe {x:Ins} {pl ch:Int} (h:jJ x pl ch=true):qM3 x:=by
 unfold jJ at h
 simp only [wBp,qL] at h
 obtain ⟨⟨⟨⟨h1,h2⟩,h3⟩,_⟩,_⟩:=h
 exact ⟨by omega,by omega,by omega⟩
theorem rZ {k:KV} (h:WfV k) :∀(s:List Int) (o:KV),WfV o→WfV (s.foldl (fun o r=>o.set r.toNat kno) o)
 | [],o,ho=>ho
 | r::s,o,ho=>rZ h s _ (qPd ho _ fun _=>rfl)
theorem qUs (x:Ins) {k:KV} (h:WfV k):WfV (hO x k):=by
 have hf:=rZ h (uR x) k h
 unfold hO
 simp only
 split
 ·exact qPd hf _ (by simp)
 ·split
  ·exact qPd hf _ (by simp)
  ·exact hf
theorem qKc {a b:KV} (h:vle a b) (i:Nat) {c d:bQ} (hc:kle c d):vle (a.set i c) (b.set i d):=by
 refine ⟨by simp [h.1],fun j hj=>?_⟩
 rw [wD6] at hj
 by_cases hi:i<a.length
 ·rw [jL _ _ _ _ _ hi,jL _ _ _ _ _ (h.1▸hi)]
  split
  ·exact hc
  ·exact h.2 j hj
 ·rw [wDk (by omega),wDk (by have:=h.1; omega)]
  exact h.2 j hj
theorem qM8 :∀(s:List Int) {a b:KV},vle a b→vle (s.foldl (fun o r=>o.set r.toNat kno) a) (s.foldl (fun o r=>o.set r.toNat kno) b)
 | [],_,_,h=>h
 | r::s,_,_,h=>qM8 s (qKc h _ (oT _))
theorem qRt :∀(s:List Int) (r:Int) (k:KV),r∈s→r.toNat<k.length→(s.foldl (fun o r=>o.set r.toNat kno) k).getD r.toNat default=kno
 | [],r,k,h,_=>by simp at h
 | q::s,r,k,h,hr=>by
  simp only [wDl]
  by_cases hs:r∈s
  ·exact qRt s r _ hs (by simpa using hr)
  ·have e:r=q:=by
    rcases List.mem_cons.1 h with h | h
    ·exact h
    ·exact absurd h hs
   subst e
   have hne :∀(t:List Int) (o:KV),o.getD r.toNat default=kno→r.toNat<o.length→(t.foldl (fun o r=>o.set r.toNat kno) o).getD r.toNat default=kno:=by
    intro t
    induction t with
    | nil=>intro o ho _; exact ho
    | cons p t ih =>
     intro o ho hl
     refine ih _ ?_ (by simpa using hl)
     by_cases hp:p.toNat<o.length
     ·rw [jL _ _ _ _ _ hp]
      split
      ·rfl
      ·exact ho
     ·have e:(fun (o:KV) (r:Int)=>o.set r.toNat kno) o p=o:=wDk (by omega)
      rw [e]
      exact ho
   exact hne s _ (by rw [jL _ _ _ _ _ hr,if_pos rfl]) (by simpa using hr)
theorem qOz {x:Ins} (hx:qM3 x) {a b:KV} (ha:WfV a) (hb:WfV b) (h:vle a b):vle (hO x a) (hO x b):=by
 have hs:=qM8 (uR x) h
 unfold hO
 simp only
 split
 ·exact qKc hs _ (oT _)
 ·have la:=h.2 x.a.toNat (by rw [ha.1]; exact hx.a.2)
  have lb:=h.2 x.b.toNat (by rw [ha.1]; exact hx.b.2)
  by_cases hk:nO x.op&&(b.getD x.a.toNat default).is_&&(b.getD x.b.toNat default).is_
  ·have hk':=hk
   simp only [wBp] at hk'
   have ea:a.getD x.a.toNat default=b.getD x.a.toNat default:=by
    rcases la with e | e
    ·rw [e] at hk'; simp [kno] at hk'
    ·exact e
   have eb:a.getD x.b.toNat default=b.getD x.b.toNat default:=by
    rcases lb with e | e
    ·rw [e] at hk'; simp [kno] at hk'
    ·exact e
   rw [ea,eb,if_pos hk,if_pos hk]
   exact qKc hs _ (oT _)
  ·rw [if_neg hk]
   split
   ·rename_i ht
    simp only [wBp] at ht
    have h3:x.r∈uR x:=by
     have:=ht.1.1
     unfold nO at this
     simp at this
     unfold uR
     rw [if_pos (by omega)]
     simp
    have hz:=qRt (uR x) x.r b h3 (by rw [hb.1]; exact hx.r.2)
    have hlen :∀(s:List Int) (o:KV),(s.foldl (fun o r=>o.set r.toNat kno) o).length=o.length:=by
     intro s
     induction s with
     | nil=>intro o; rfl
     | cons p s ih=>intro o; simp only [wDl]; rw [ih]; simp
    refine ⟨by simp [hlen,h.1],fun j hj=>?_⟩
    rw [wD6] at hj
    have hj0:x.r.toNat<((uR x).foldl (fun o r=>o.set r.toNat kno) a).length:=by rw [hlen,ha.1]; exact hx.r.2
    rw [jL _ _ _ _ _ hj0]
    split
    ·rename_i e
     rw [e,hz]
     exact .inl rfl
    ·exact hs.2 j hj
   ·exact hs
theorem zX :∀(a b:KV),(gM a b).length=a.length
 | [],_=>by simp [gM]
 | _::_,[]=>by simp [gM]
 | a::l,b::k=>by simp [gM,zX l k]
theorem qAc :∀(a b:KV) (i:Nat),i<a.length→i<b.length→(gM a b).getD i default=oM (a.getD i default) (b.getD i default)
 | [],_,i,h,_=>by simp at h
 | _::_,[],i,_,h=>by simp at h
 | a::l,b::k,0,_,_=>by simp [gM]
 | a::l,b::k,i+1,h,g=>by
  simp only [gM,wDm]
  exact qAc l k i (by simpa using h) (by simpa using g)
theorem qE9 {a:KV} (b:KV) (ha:WfV a):WfV (gM a b):=by
 refine ⟨by rw [zX]; exact ha.1,?_⟩
 have :∀(a b:KV),(∀x∈a,x.is_=false→x=kno)→∀x∈gM a b,x.is_=false→x=kno:=by
  intro a
  induction a with
  | nil=>intro b _ x hx; simp [gM] at hx
  | cons c l ih =>
   intro b h
   cases b with
   | nil=>simpa [gM] using h
   | cons d k =>
    intro x hx hf
    simp only [gM] at hx
    rcases List.mem_cons.1 hx with rfl | hx
    ·unfold oM at hf⊢
     split
     ·rfl
     ·rename_i hc
      rw [if_neg hc] at hf
      exact h c (by simp) hf
    ·exact ih k (fun y hy=>h y (by simp [hy])) x hx hf
 exact this a b ha.2
theorem qW4 {a b:KV} (ha:WfV a) (hb:WfV b):vle a (gM a b):=by
 refine ⟨(zX a b).symm,fun i hi=>?_⟩
 rw [qAc a b i hi (by rw [hb.1,←ha.1]; exact hi)]
 unfold oM
 split
 ·exact .inl rfl
 ·exact oT _
theorem qW3 {a b:KV} (ha:WfV a) (hb:WfV b):vle b (gM a b):=by
 refine ⟨by rw [zX,ha.1,hb.1],fun i hi=>?_⟩
 have hia:i<a.length:=by rw [ha.1,←hb.1]; exact hi
 rw [qAc a b i hia hi]
 unfold oM
 split
 ·exact .inl rfl
 ·rename_i hc
  cases hk:(a.getD i default).is_ with
  | false=>rw [wAl ha i hk]; exact .inl rfl
  | true =>
   rw [hk] at hc
   simp only [Bool.true_and,Bool.not_eq_true',decide_eq_false_iff_not,Decidable.not_not] at hc
   exact .inr hc.symm
theorem qQ0 {a b c:KV} (ha:vle a c) (hb:vle b c):vle (gM a b) c:=by
 refine ⟨by rw [zX]; exact ha.1,fun i hi=>?_⟩
 rw [zX] at hi
 have hib:i<b.length:=by rw [hb.1,←ha.1]; exact hi
 rw [qAc a b i hi hib]
 unfold oM
 split
 ·rename_i hc
  simp only [wBp,Bool.not_eq_true',decide_eq_false_iff_not] at hc
  rcases ha.2 i hi with e | e
  ·exact .inl e
  ·rcases hb.2 i hib with e' | e'
   ·exact .inl e'
   ·exact absurd (e.trans e'.symm) hc.2
 ·exact ha.2 i hi
theorem qFt :∀{a b:KV},qCx a b=false→gM a b=a
 | [],_,_=>by simp [gM]
 | _::_,[],_=>by simp [gM]
 | a::l,b::k,h=>by
  simp only [qCx,Bool.or_eq_false_iff] at h
  simp only [gM,qFt h.2]
  unfold oM
  have:=h.1
  unfold qWa at this
  rw [if_neg (by rw [this]; simp)]
def cnt:KV→Nat
 | []=>0
 | a::l=>(if a.is_ then 1 else 0)+cnt l
theorem qXb :∀(a:KV),cnt a≤a.length
 | []=>by simp [cnt]
 | a::l=>by
  have:=qXb l
  simp only [cnt,List.length_cons]
  split<;>omega
theorem qNc :∀(a b:KV),cnt (gM a b)≤cnt a∧(qCx a b=true→cnt (gM a b)<cnt a)
 | [],_=>by simp [gM,qCx,cnt]
 | _::_,[]=>by simp [gM,qCx]
 | a::l,b::k=>by
  have ih:=qNc l k
  have h1:(if (oM a b).is_ then 1 else 0)≤(if a.is_ then 1 else 0:Nat):=by
   unfold oM
   split
   ·simp [kno]
   ·exact Nat.le_refl _
  simp only [gM,qCx,cnt]
  refine ⟨by have:=ih.1; omega,fun h=>?_⟩
  rw [wC0] at h
  rcases h with h | h
  ·have h2:(if (oM a b).is_ then 1 else 0)<(if a.is_ then 1 else 0:Nat):=by
    unfold qWa at h
    unfold oM
    rw [if_pos h]
    simp only [wBp] at h
    simp [kno,h.1]
   have:=ih.1
   omega
  ·have:=ih.2 h
   omega
def qNu:KV:=[⟨true,0⟩,⟨true,0⟩,⟨true,0⟩,⟨true,0⟩]
def bl (a b:KV):Prop:=a=[]∨(b≠[]∧vle a b)
theorem qZb (a:KV):bl a a:=by
 by_cases h:a=[]
 ·exact .inl h
 ·exact .inr ⟨h,qEm a⟩
abbrev kat (S:KS) (i:Nat):KV:=S.getD i []
def EOk (l:List Ins) (S:KS) (a:Nat):Prop:=kat S a≠[]→∀n∈yO l a,kat S n.toNat≠[]∧vle (hO (l.getD a default) (kat S a)) (kat S n.toNat)
structure qXv (l:List Ins) (T:KS):Prop where
 len:T.length=l.length
 wf :∀i,kat T i=[]∨WfV (kat T i)
 init:kat T 0≠[]∧vle qNu (kat T 0)
 edge :∀a,a<l.length→EOk l T a
structure qUz (l:List Ins) (S:KS):Prop where
 len:S.length=l.length
 wf :∀i,kat S i=[]∨WfV (kat S i)
 init:kat S 0≠[]∧vle qNu (kat S 0)
 least :∀T,qXv l T→∀i,bl (kat S i) (kat T i)
structure qXw (l:List Ins) (S:KS):Prop where
 inv:qUz l S
 edge :∀a,a<l.length→EOk l S a
def upd (S:KS) (out:KV) (n:Nat):KS:=S.set n (if kat S n=[] then out else gM (kat S n) out)
def qSt (S:KS) (out:KV) (n:Nat):Bool:=decide (kat S n=[])||qCx (kat S n) out
theorem qKe (S:KS) (out:KV) (n i:Nat) (h:n<S.length):kat (upd S out n) i=if i=n then (if kat S n=[] then out else gM (kat S n) out) else kat S i:=jL _ _ _ _ _ h
theorem qPf (S:KS) (out:KV) (n:Nat):(upd S out n).length=S.length:=wD6
theorem qI3 {a:KV} (h:WfV a):a≠[]:=fun e=>by have:=h.1; rw [e] at this; simp at this
theorem qZy {S:KS} {out:KV} {n:Nat} (hn:n<S.length) (hw:kat S n=[]∨WfV (kat S n)) (ho:WfV out) (i:Nat):bl (kat S i) (kat (upd S out n) i):=by
 rw [qKe S out n i hn]
 split
 ·rename_i e
  subst e
  split
  ·rename_i h; exact .inl h
  ·rename_i h
   have hw':WfV (kat S i):=hw.resolve_left h
   exact .inr ⟨qI3 (qE9 _ hw'),qW4 hw' ho⟩
 ·exact qZb _
theorem qXy {S:KS} {out:KV} {n:Nat} (hn:n<S.length) (hw:kat S n=[]∨WfV (kat S n)) (ho:WfV out):kat (upd S out n) n≠[]∧vle out (kat (upd S out n) n):=by
 rw [qKe S out n n hn,if_pos rfl]
 split
 ·exact ⟨qI3 ho,qEm _⟩
 ·rename_i h
  have hw':WfV (kat S n):=hw.resolve_left h
  exact ⟨qI3 (qE9 _ hw'),qW3 hw' ho⟩
theorem qV6 {S:KS} {out:KV} {n:Nat} (h:qSt S out n=false):upd S out n=S:=by
 unfold qSt at h
 simp only [Bool.or_eq_false_iff,decide_eq_false_iff_not] at h
 unfold upd
 rw [if_neg h.1,qFt h.2]
 by_cases hn:n<S.length
 ·apply List.ext_getElem (by simp)
  intro i h1 h2
  rw [List.getElem_set]
  split
  ·rename_i e
   subst e
   simp [kat,wBr,hn]
  ·rfl
 ·exact wDk (by omega)
def wS (v:KV):Nat:=if v=[] then 5 else cnt v
def mS (S:KS):Nat:=sI wS S
theorem qMf {α:Type} (w:α→Nat) (d:α) :∀(l:List α) (i:Nat) (a:α),i<l.length→sI w (l.set i a)+w (l.getD i d)=sI w l+w a
 | [],i,a,h=>by simp at h
 | x::l,0,a,h=>by simp [sI]; omega
 | x::l,i+1,a,h=>by
  have:=qMf w d l i a (by simpa using h)
  simp only [List.set_cons_succ,sI,wDm]
  omega
theorem qV7 {S:KS} {out:KV} {n:Nat} (hn:n<S.length) (hw:kat S n=[]∨WfV (kat S n)) (ho:WfV out):mS (upd S out n)≤mS S∧(qSt S out n=true→mS (upd S out n)<mS S):=by
 have ht:=qMf wS [] S n (if kat S n=[] then out else gM (kat S n) out) hn
 have e:sI wS (upd S out n)=mS (upd S out n):=rfl
 have hk:S.getD n []=kat S n:=rfl
 unfold upd at e⊢
 unfold qSt mS at *
 rw [hk] at ht
 by_cases h:kat S n=[]
 ·rw [if_pos h] at ht⊢
  have h1:wS (kat S n)=5:=by unfold wS; rw [if_pos h]
  have h2:wS out≤4:=by unfold wS; rw [if_neg (qI3 ho)]; have:=qXb out; rw [ho.1] at this; exact this
  exact ⟨by omega,fun _=>by omega⟩
 ·rw [if_neg h] at ht⊢
  have hw':WfV (kat S n):=hw.resolve_left h
  have h1:wS (kat S n)=cnt (kat S n):=by unfold wS; rw [if_neg h]
  have h2:wS (gM (kat S n) out)=cnt (gM (kat S n) out):=by unfold wS; rw [if_neg (qI3 (qE9 _ hw'))]
  have hm:=qNc (kat S n) out
  refine ⟨by have:=hm.1; omega,fun hd=>?_⟩
  rw [wC0] at hd
  rcases hd with hd | hd
  ·exact absurd (by simpa using hd) h
  ·have:=hm.2 hd
   omega
theorem qXz {l:List Ins} {S:KS} {out:KV} {n:Nat} (h:qUz l S) (hn:n<l.length) (ho:WfV out) (hl :∀T,qXv l T→kat T n≠[]∧vle out (kat T n)):qUz l (upd S out n):=by
 have hn':n<S.length:=by rw [h.len]; exact hn
 refine ⟨by rw [qPf]; exact h.len,fun i=>?_,?_,fun T hT i=>?_⟩
 ·rw [qKe S out n i hn']
  split
  ·split
   ·exact .inr ho
   ·rename_i e
    exact .inr (qE9 _ ((h.wf n).resolve_left e))
  ·exact h.wf i
 ·have hb:=qZy hn' (h.wf n) ho 0
  rcases hb with hb | hb
  ·exact absurd hb h.init.1
  ·exact ⟨hb.1,qI4 h.init.2 hb.2⟩
 ·rw [qKe S out n i hn']
  split
  ·rename_i e
   subst e
   have hT':=hl T hT
   split
   ·exact .inr hT'
   ·rename_i e
    have hb:=h.least T hT i
    rcases hb with hb | hb
    ·exact absurd hb e
    ·exact .inr ⟨hb.1,qQ0 hb.2 hT'.2⟩
  ·exact h.least T hT i
theorem wA2 {l:List Ins} {S:KS} {a:Nat} (h:qUz l S) (ha:a<l.length) (hx:qM3 (l.getD a default)) (hs:kat S a≠[]) (T:KS) (hT:qXv l T) (n:Int) (hn:n∈yO l a):kat T n.toNat≠[]∧vle (hO (l.getD a default) (kat S a)) (kat T n.toNat):=by
 have hb:=h.least T hT a
 rcases hb with hb | hb
 ·exact absurd hb hs
 ·have he:=hT.edge a ha hb.1 n hn
  exact ⟨he.1,qI4 (qOz hx ((h.wf a).resolve_left hs) ((hT.wf a).resolve_left hb.1) hb.2) he.2⟩
theorem zW {l:List Ins} (h:wF l 3=true) {a:Nat} (ha:a<l.length) :∀n∈yO l a,0≤n∧n.toNat<l.length:=by
 unfold wF at h
 simp only [wBp,wDj,wC0,decide_eq_true_eq] at h
 obtain ⟨⟨⟨_,hl⟩,hall⟩,hlast⟩:=h
 have hx:=hall _ (yB l a default ha)
 have hnl:(l.getD a default).op≠13→(l.getD a default).op≠11→a+1<l.length:=fun h1 h2=>by
  apply Nat.lt_of_le_of_ne ha
  intro e
  have:l.length-1=a:=by omega
  unfold xK at hlast
  rw [this] at hlast
  rcases hlast with h3 | h3
  ·exact h1 h3
  ·exact h2 h3
 have hj:((l.getD a default).op=11∨(l.getD a default).op=12)→0≤(l.getD a default).n∧(l.getD a default).n<l.length:=fun ho=>by
  unfold jJ at hx
  rcases ho with ho | ho
  ·simp only [ho,wBp] at hx
   simp [-wBr] at hx
   omega
  ·simp only [ho,wBp] at hx
   simp [-wBr] at hx
   omega
 intro n hn
 unfold yO at hn
 simp only at hn
 generalize (l.getD a default)=x at *
 split at hn
 ·simp at hn
 ·rename_i h13
  split at hn
  ·rename_i h11
   have:=hj (.inl h11)
   simp at hn
   omega
  ·rename_i h11
   have hn1:=hnl h13 h11
   split at hn
   ·rename_i h12
    have:=hj (.inr h12)
    split at hn
    ·simp at hn
     omega
    ·split at hn
     ·simp at hn
      omega
     ·simp at hn
      omega
   ·simp at hn
    omega
theorem qCd {l:List Ins} (h:wF l 3=true) {a:Nat} (ha:a<l.length):qM3 (l.getD a default):=by
 unfold wF at h
 simp only [wBp,wDj] at h
 exact qYe (h.1.2 _ (yB l a default ha))
theorem zS {l:List Ins} {ch:Int} (h:wF l ch=true):1≤l.length∧l.length≤24:=by
 unfold wF at h
 simp only [wBp,qL] at h
 omega
def qL9 (n:Nat):KS:=(wBj n []).set 0 qNu
theorem qC1 (n i:Nat) (h:0<n):kat (qL9 n) i=if i=0 then qNu else []:=by
 unfold qL9 kat
 rw [jL _ _ _ _ _ (by simpa using h)]
 split
 ·rfl
 ·simp [wBr,List.getElem?_replicate]
  split<;>rfl
theorem qQ7 {l:List Ins} (h:0<l.length):qUz l (qL9 l.length):=by
 refine ⟨by simp [qL9],fun i=>?_,?_,fun T hT i=>?_⟩
 ·rw [qC1 _ _ h]
  split
  ·exact .inr qRa
  ·exact .inl rfl
 ·rw [qC1 _ _ h,if_pos rfl]
  exact ⟨qI3 qRa,qEm _⟩
 ·rw [qC1 _ _ h]
  split
  ·rename_i e
   subst e
   exact .inr hT.init
  ·exact .inl rfl
theorem qW9 {l:List Ins} (hb:wF l 3=true) :∀(m:Nat) (S:KS),qUz l S→mS S=m→∃K,qXw l K:=by
 intro m
 induction m using Nat.strongRecOn with
 | ind m ih =>
  intro S hS hm
  by_cases he :∀a,a<l.length→EOk l S a
  ·exact ⟨S,hS,he⟩
  ·have ⟨a,ha⟩:=Classical.not_forall.1 he
   have ⟨ha1,ha2⟩:=Classical.not_imp.1 ha
   unfold EOk at ha2
   have ⟨hs,h3⟩:=Classical.not_imp.1 ha2
   have ⟨n,h4⟩:=Classical.not_forall.1 h3
   have ⟨hn,h5⟩:=Classical.not_imp.1 h4
   have hni:=(zW hb ha1 n hn).2
   have hwo:=qUs (l.getD a default) ((hS.wf a).resolve_left hs)
   have hni':n.toNat<S.length:=by rw [hS.len]; exact hni
   have hd:qSt S (hO (l.getD a default) (kat S a)) n.toNat=true:=by
    cases h6:qSt S (hO (l.getD a default) (kat S a)) n.toNat with
    | true=>rfl
    | false =>
     have e:=qV6 h6
     have hnew:=qXy hni' (hS.wf n.toNat) hwo
     rw [e] at hnew
     exact absurd hnew h5
   have hmm:=(qV7 hni' (hS.wf n.toNat) hwo).2 hd
   exact ih _ (by omega) _ (qXz hS hni hwo fun T hT=>wA2 hS ha1 (qCd hb ha1) hs T hT n hn) rfl
theorem qFs {l:List Ins} (hb:wF l 3=true) :∃K,qXw l K:=qW9 hb _ _ (qQ7 (zS hb).1) rfl
end Go.Sep
