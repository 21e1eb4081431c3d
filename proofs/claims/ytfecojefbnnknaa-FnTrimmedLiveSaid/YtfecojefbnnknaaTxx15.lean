/- Contracts of functions. -/
import Derived.Test.YtfecojefbnnknaaTxx6
import Derived.Test.YtfecojefbnnknaaTxx7
open Bool renaming and_eq_true → qZ8, or_eq_true → qZj
open List renaming all_eq_true → wB2, foldl_cons → wB4, getD_cons_succ → wB5, getD_eq_getElem?_getD → qZa, length_set → wAp, map_cons → qZ5, mem_map → wAo, replicate → qZ2, set_eq_of_length_le → wB3
namespace Go.Sep
set_option maxHeartbeats 16000000
open Go.Proofs
set_option linter.unusedSimpArgs false
set_option linter.unusedVariables false
set_option maxRecDepth 100000
structure bG where
 is_:Bool
 v:Int
 deriving DecidableEq,Inhabited
def nG (x:bG):List AV:=[.bool x.is_,.int .i64 x.v]
def uW (l:List bG):List (List AV):=l.map nG
theorem qNm:uW []=[]:=rfl
theorem iH (l:List bG):(uW l).length=l.length:=by simp [uW]
theorem qFy (l k:List bG):uW l++uW k=uW (l++k):=by simp [uW]
theorem qBm (l:List bG) (n:Nat):(uW l).drop n=uW (l.drop n):=by simp [uW]
theorem qBl (l:List bG) (n:Nat):(uW l).take n=uW (l.take n):=by simp [uW]
theorem qNl (l:List bG) (i:Nat) (is__:Bool) (v_:Int):(uW l).set i [.bool is__,.int .i64 v_]=uW (l.set i ⟨is__,v_⟩):=by simp [uW,nG]
theorem lH (A:Nat→Prop) (l:List bG):yM A (uW l)↔True:=by
 simp only [iff_true]
 induction l with
 | nil=>trivial
 | cons x l ih=>exact ⟨by simp [nG,yX,bnd,zE,yT,vZ,jK,vF,uD,uN,vD,bR,gK,uU,eD],ih⟩
theorem oN (l:List bG):nbr (uW l)↔True:=by
 simp only [iff_true]
 induction l with
 | nil=>trivial
 | cons x l ih=>exact ⟨by simp [nG,nbs,nb,vY,bL,vH,uX,bF,uV,vW,dL,dR,bV,iM],ih⟩
theorem kB :∀(l:List bG),bwR (uW l)=uW l
 | []=>rfl
 | x::l=>by
  have:=kB l
  simp only [uW,qZ5,bwR] at this⊢
  rw [this]
  simp [nG,bwL,bwC,uJ,bC,jW,uL,uY,bE,vL,gO,dO,bD,fE]
theorem qLb (l:List bG):free (uW l)↔True:=by
 simp only [iff_true]
 intro r hr c hc
 simp only [uW,wAo] at hr
 obtain ⟨x,_,rfl⟩:=hr
 simp [nG] at hc
 rcases hc with rfl | rfl<;>rfl
def vR (m:Mode) (l:List (List bG)):List (List AV):=l.map fun b=>[.sl m 2 (uW b)]
theorem qLa (m:Mode):vR m []=[]:=rfl
theorem cX (m:Mode) (l:List (List bG)):(vR m l).length=l.length:=by simp [vR]
theorem qEe (m:Mode) (l k:List (List bG)):vR m l++vR m k=vR m (l++k):=by simp [vR]
theorem sQ (m:Mode) (l:List (List bG)) (n:Nat):(vR m l).drop n=vR m (l.drop n):=by simp [vR]
theorem sP (m:Mode) (l:List (List bG)) (n:Nat):(vR m l).take n=vR m (l.take n):=by simp [vR]
theorem qL9 (m:Mode) (l:List (List bG)) (i:Nat) (b_:List bG):(vR m l).set i [.sl m 2 (uW b_)]=vR m (l.set i b_):=by simp [vR]
theorem nF (A:Nat→Prop) (m:Mode) (l:List (List bG)):yM A (vR m l)↔True:=by
 simp only [iff_true]
 induction l with
 | nil=>trivial
 | cons x l ih=>exact ⟨by simp [yX,bnd,zE,yT,vZ,jK,vF,uD,uN,vD,bR,gK,uU,eD,lH],ih⟩
theorem pU (l:List (List bG)):nbr (vR .own l)↔True:=by
 simp only [iff_true]
 induction l with
 | nil=>trivial
 | cons x l ih=>exact ⟨by simp [nbs,nb,vY,bL,vH,uX,bF,uV,vW,dL,dR,bV,iM,oN],ih⟩
theorem lG (m:Mode) :∀(l:List (List bG)),bwR (vR m l)=vR .bw l
 | []=>rfl
 | x::l=>by
  have:=lG m l
  simp only [vR,qZ5,bwR] at this⊢
  rw [this]
  simp [bwL,bwC,uJ,bC,jW,uL,uY,bE,vL,gO,dO,bD,fE,kB]
theorem qJ4 (l:List (List bG)):free (vR .bw l)↔True:=by
 simp only [iff_true]
 intro r hr c hc
 simp only [vR,wAo] at hr
 obtain ⟨x,_,rfl⟩:=hr
 simp [] at hc
 rcases hc with rfl<;>rfl
def bK (m:Mode) (l:List (List bS)):List (List AV):=l.map fun b=>[.sl m 2 (jB b)]
theorem qN5 (m:Mode):bK m []=[]:=rfl
theorem iF (m:Mode) (l:List (List bS)):(bK m l).length=l.length:=by simp [bK]
theorem qFv (m:Mode) (l k:List (List bS)):bK m l++bK m k=bK m (l++k):=by simp [bK]
theorem qBf (m:Mode) (l:List (List bS)) (n:Nat):(bK m l).drop n=bK m (l.drop n):=by simp [bK]
theorem qBe (m:Mode) (l:List (List bS)) (n:Nat):(bK m l).take n=bK m (l.take n):=by simp [bK]
theorem qN4 (m:Mode) (l:List (List bS)) (i:Nat) (b_:List bS):(bK m l).set i [.sl m 2 (jB b_)]=bK m (l.set i b_):=by simp [bK]
theorem qE1 (A:Nat→Prop) (m:Mode) (l:List (List bS)):yM A (bK m l)↔True:=by
 simp only [iff_true]
 induction l with
 | nil=>trivial
 | cons x l ih=>exact ⟨by simp [yX,bnd,zE,yT,vZ,jK,vF,uD,uN,vD,bR,gK,uU,eD,lH,nF],ih⟩
theorem qGz (l:List (List bS)):nbr (bK .own l)↔True:=by
 simp only [iff_true]
 induction l with
 | nil=>trivial
 | cons x l ih=>exact ⟨by simp [nbs,nb,vY,bL,vH,uX,bF,uV,vW,dL,dR,bV,iM,oN,pU],ih⟩
theorem qAh (m:Mode) :∀(l:List (List bS)),bwR (bK m l)=bK .bw l
 | []=>rfl
 | x::l=>by
  have:=qAh m l
  simp only [bK,qZ5,bwR] at this⊢
  rw [this]
  simp [bwL,bwC,uJ,bC,jW,uL,uY,bE,vL,gO,dO,bD,fE,kB,lG]
theorem qKu (l:List (List bS)):free (bK .bw l)↔True:=by
 simp only [iff_true]
 intro r hr c hc
 simp only [bK,wAo] at hr
 obtain ⟨x,_,rfl⟩:=hr
 simp [] at hc
 rcases hc with rfl<;>rfl
def vN (l:List Bool):List (List AV):=l.map fun b=>[.bool b]
theorem qOd:vN []=[]:=rfl
theorem iN (l:List Bool):(vN l).length=l.length:=by simp [vN]
theorem qG7 (l k:List Bool):vN l++vN k=vN (l++k):=by simp [vN]
theorem qC5 (l:List Bool) (n:Nat):(vN l).drop n=vN (l.drop n):=by simp [vN]
theorem qC3 (l:List Bool) (n:Nat):(vN l).take n=vN (l.take n):=by simp [vN]
theorem qOc (n:Nat) (b_:Bool):List.replicate n [.bool b_]=vN (List.replicate n b_):=by simp [vN]
theorem qF5 (l:List Bool) (i:Nat) (b_:Bool):(vN l).set i [.bool b_]=vN (l.set i b_):=by simp [vN]
theorem qC4 (l:List Bool) (i:Nat) (h:i<l.length):(vN l).getD i []=[.bool (l.getD i false)]:=by simp [vN,List.getD_eq_getElem?_getD,h]
theorem qOe (A:Nat→Prop) (l:List Bool):yM A (vN l)↔True:=by
 simp only [iff_true]
 induction l with
 | nil=>trivial
 | cons x l ih=>exact ⟨by simp [yX,bnd,zE,yT,vZ,jK,vF,uD,uN,vD,bR,gK,uU,eD,lH,nF,qE1],ih⟩
theorem qS7 (l:List Bool):nbr (vN l)↔True:=by
 simp only [iff_true]
 induction l with
 | nil=>trivial
 | cons x l ih=>exact ⟨by simp [nbs,nb,vY,bL,vH,uX,bF,uV,vW,dL,dR,bV,iM,oN,pU,qGz],ih⟩
theorem qHw :∀(l:List Bool),bwR (vN l)=vN l
 | []=>rfl
 | x::l=>by
  have:=qHw l
  simp only [vN,qZ5,bwR] at this⊢
  rw [this]
  simp [bwL,bwC,uJ,bC,jW,uL,uY,bE,vL,gO,dO,bD,fE,kB,lG,qAh]
theorem qM9 (l:List Bool):free (vN l)↔True:=by
 simp only [iff_true]
 intro r hr c hc
 simp only [vN,wAo] at hr
 obtain ⟨x,_,rfl⟩:=hr
 simp [] at hc
 rcases hc with rfl<;>rfl
theorem fS3:((∀l,(uW l).length=l.length)∧(∀m l,(vR m l).length=l.length)∧(∀m l,(bK m l).length=l.length)∧(∀l,(vN l).length=l.length)):=⟨by intros; simp [iH],by intros; simp [cX],by intros; simp [iF],by intros; simp [iN]⟩
attribute [go_sem] iH qFy qBm qBl qNl nG cX qEe sQ sP qL9 iF qFv qBf qBe qN4 iN qG7 qC5 qC3 qF5
attribute [simp] qNm kB lH oN iH qBl qBm qLb qLa lG nF pU cX sP sQ qJ4 qN5 qAh qE1 qGz iF qBe qBf qKu qOd qHw qOe qS7 iN qC3 qC5 qM9 nG
abbrev KV:=List bG
abbrev KS:=List KV
def kno:bG:=⟨false,0⟩
def gW (x:Ins):List Int:=if x.op=1∨x.op=2∨x.op=3∨x.op=4∨x.op=7 then [x.r] else if x.op=6∨x.op=8 then [x.r,x.b] else []
def qP3 (op:Int):Bool:=decide (op=2)||decide (op=3)||decide (op=4)
def fG (x:Ins) (k:KV):KV :=
 let out:=(gW x).foldl (fun o r=>o.set r.toNat kno) k
 if x.op=1 then out.set x.r.toNat ⟨true,x.n⟩
 else if qP3 x.op&&(k.getD x.a.toNat default).is_&&(k.getD x.b.toNat default).is_ then out.set x.r.toNat ⟨true,xC x.op (k.getD x.a.toNat default).v (k.getD x.b.toNat default).v⟩
 else out
def nE (a b:bG):bG:=if a.is_&&!decide (a=b) then kno else a
def qTx (a b:bG):Bool:=a.is_&&!decide (a=b)
def gC:KV→KV→KV
 | a::l,b::k=>nE a b::gC l k
 | l,_=>l
def qBk:KV→KV→Bool
 | a::l,b::k=>qTx a b||qBk l k
 | _,_=>false
def vM (l:List Ins) (at_:Nat):List Int :=
 let x:Ins:=l.getD at_ default
 if x.op=13 then [] else if x.op=11 then [x.n]
 else if x.op=12 then (if x.n<(at_:Int)+1 then [x.n,(at_:Int)+1] else if (at_:Int)+1<x.n then [(at_:Int)+1,x.n] else [(at_:Int)+1])
 else [(at_:Int)+1]
def WfV (k:KV):Prop:=k.length=4∧∀a∈k,a.is_=false→a=kno
def kle (a b:bG):Prop:=b=kno∨a=b
def vle (a b:KV):Prop:=a.length=b.length∧∀i,i<a.length→kle (a.getD i default) (b.getD i default)
theorem nH (a:bG):kle a a:=.inr rfl
theorem qRh {a b c:bG} (h:kle a b) (k:kle b c):kle a c:=by
 rcases k with rfl | rfl
 ·exact .inl rfl
 ·exact h
theorem qD5 (a:KV):vle a a:=⟨rfl,fun _ _=>nH _⟩
theorem qGb {a b c:KV} (h:vle a b) (k:vle b c):vle a c:=⟨h.1.trans k.1,fun i hi=>qRh (h.2 i hi) (k.2 i (h.1▸hi))⟩
theorem jC {α:Type} (l:List α) (i j:Nat) (a d:α) (hi:i<l.length):(l.set i a).getD j d=if j=i then a else l.getD j d:=by
 by_cases h:j=i
 ·subst h
  simp [qZa,hi]
 ·rw [if_neg h]
  simp [qZa,List.getElem?_set,show¬i=j from fun e=>h e.symm]
theorem qY5 {k:KV} (h:WfV k) (i:Nat) (hk:(k.getD i default).is_=false):k.getD i default=kno:=by
 by_cases hi:i<k.length
 ·exact h.2 _ (yL k i default hi) hk
 ·rw [qZa,List.getElem?_eq_none (by omega)]
  rfl
theorem qMp {k:KV} (h:WfV k) (i:Nat) {a:bG} (ha:a.is_=false→a=kno):WfV (k.set i a):=by
 refine ⟨by rw [wAp]; exact h.1,fun b hb=>?_⟩
 rcases List.mem_or_eq_of_mem_set hb with hb | rfl
 ·exact h.2 b hb
 ·exact ha
theorem qOo:WfV [⟨true,0⟩,⟨true,0⟩,⟨true,0⟩,⟨true,0⟩]:=⟨rfl,fun a ha h=>by
 simp at ha
 subst ha
 simp at h⟩
structure qJz (x:Ins):Prop where
 r:0≤x.r∧x.r.toNat<4
 a:0≤x.a∧x.a.toNat<4
 b:0≤x.b∧x.b.toNat<4
theorem qVz {x:Ins} {pl ch:Int} (h:jR x pl ch=true):qJz x:=by
 unfold jR at h
 simp only [qZ8,qK] at h
 obtain ⟨⟨⟨⟨h1,h2⟩,h3⟩,_⟩,_⟩:=h
 exact ⟨by omega,by omega,by omega⟩
theorem pG {k:KV} (h:WfV k) :∀(s:List Int) (o:KV),WfV o→WfV (s.foldl (fun o r=>o.set r.toNat kno) o)
 | [],o,ho=>ho
 | r::s,o,ho=>pG h s _ (qMp ho _ fun _=>rfl)
theorem qSa (x:Ins) {k:KV} (h:WfV k):WfV (fG x k):=by
 have hf:=pG h (gW x) k h
 unfold fG
 simp only
 split
 ·exact qMp hf _ (by simp)
 ·split
  ·exact qMp hf _ (by simp)
  ·exact hf
theorem qIb {a b:KV} (h:vle a b) (i:Nat) {c d:bG} (hc:kle c d):vle (a.set i c) (b.set i d):=by
 refine ⟨by simp [h.1],fun j hj=>?_⟩
 rw [wAp] at hj
 by_cases hi:i<a.length
 ·rw [jC _ _ _ _ _ hi,jC _ _ _ _ _ (h.1▸hi)]
  split
  ·exact hc
  ·exact h.2 j hj
 ·rw [wB3 (by omega),wB3 (by have:=h.1; omega)]
  exact h.2 j hj
theorem qK5 :∀(s:List Int) {a b:KV},vle a b→vle (s.foldl (fun o r=>o.set r.toNat kno) a) (s.foldl (fun o r=>o.set r.toNat kno) b)
 | [],_,_,h=>h
 | r::s,_,_,h=>qK5 s (qIb h _ (nH _))
theorem qP8 :∀(s:List Int) (r:Int) (k:KV),r∈s→r.toNat<k.length→(s.foldl (fun o r=>o.set r.toNat kno) k).getD r.toNat default=kno
 | [],r,k,h,_=>by simp at h
 | q::s,r,k,h,hr=>by
  simp only [wB4]
  by_cases hs:r∈s
  ·exact qP8 s r _ hs (by simpa using hr)
  ·have e:r=q:=by
    rcases List.mem_cons.1 h with h | h
    ·exact h
    ·exact absurd h hs
   subst e
   have hne :∀(t:List Int) (o:KV),o.getD r.toNat default=kno→r.toNat<o.length→(t.foldl (fun o r=>o.set r.toNat kno) o).getD r.toNat default=kno:=by
    intro t
    induction t with
    | nil=>intro o ho _; exact ho
    | cons p t ih =>
     intro o ho hl
     refine ih _ ?_ (by simpa using hl)
     by_cases hp:p.toNat<o.length
     ·rw [jC _ _ _ _ _ hp]
      split
      ·rfl
      ·exact ho
     ·have e:(fun (o:KV) (r:Int)=>o.set r.toNat kno) o p=o:=wB3 (by omega)
      rw [e]
      exact ho
   exact hne s _ (by rw [jC _ _ _ _ _ hr,if_pos rfl]) (by simpa using hr)
theorem qMd {x:Ins} (hx:qJz x) {a b:KV} (ha:WfV a) (hb:WfV b) (h:vle a b):vle (fG x a) (fG x b):=by
 have hs:=qK5 (gW x) h
 unfold fG
 simp only
 split
 ·exact qIb hs _ (nH _)
 ·have la:=h.2 x.a.toNat (by rw [ha.1]; exact hx.a.2)
  have lb:=h.2 x.b.toNat (by rw [ha.1]; exact hx.b.2)
  by_cases hk:qP3 x.op&&(b.getD x.a.toNat default).is_&&(b.getD x.b.toNat default).is_
  ·have hk':=hk
   simp only [qZ8] at hk'
   have ea:a.getD x.a.toNat default=b.getD x.a.toNat default:=by
    rcases la with e | e
    ·rw [e] at hk'; simp [kno] at hk'
    ·exact e
   have eb:a.getD x.b.toNat default=b.getD x.b.toNat default:=by
    rcases lb with e | e
    ·rw [e] at hk'; simp [kno] at hk'
    ·exact e
   rw [ea,eb,if_pos hk,if_pos hk]
   exact qIb hs _ (nH _)
  ·rw [if_neg hk]
   split
   ·rename_i ht
    simp only [qZ8] at ht
    have h3:x.r∈gW x:=by
     have:=ht.1.1
     unfold qP3 at this
     simp at this
     unfold gW
     rw [if_pos (by omega)]
     simp
    have hz:=qP8 (gW x) x.r b h3 (by rw [hb.1]; exact hx.r.2)
    have hlen :∀(s:List Int) (o:KV),(s.foldl (fun o r=>o.set r.toNat kno) o).length=o.length:=by
     intro s
     induction s with
     | nil=>intro o; rfl
     | cons p s ih=>intro o; simp only [wB4]; rw [ih]; simp
    refine ⟨by simp [hlen,h.1],fun j hj=>?_⟩
    rw [wAp] at hj
    have hj0:x.r.toNat<((gW x).foldl (fun o r=>o.set r.toNat kno) a).length:=by rw [hlen,ha.1]; exact hx.r.2
    rw [jC _ _ _ _ _ hj0]
    split
    ·rename_i e
     rw [e,hz]
     exact .inl rfl
    ·exact hs.2 j hj
   ·exact hs
theorem zL :∀(a b:KV),(gC a b).length=a.length
 | [],_=>by simp [gC]
 | _::_,[]=>by simp [gC]
 | a::l,b::k=>by simp [gC,zL l k]
theorem sL :∀(a b:KV) (i:Nat),i<a.length→i<b.length→(gC a b).getD i default=nE (a.getD i default) (b.getD i default)
 | [],_,i,h,_=>by simp at h
 | _::_,[],i,_,h=>by simp at h
 | a::l,b::k,0,_,_=>by simp [gC]
 | a::l,b::k,i+1,h,g=>by
  simp only [gC,wB5]
  exact sL l k i (by simpa using h) (by simpa using g)
theorem qCs {a:KV} (b:KV) (ha:WfV a):WfV (gC a b):=by
 refine ⟨by rw [zL]; exact ha.1,?_⟩
 have :∀(a b:KV),(∀x∈a,x.is_=false→x=kno)→∀x∈gC a b,x.is_=false→x=kno:=by
  intro a
  induction a with
  | nil=>intro b _ x hx; simp [gC] at hx
  | cons c l ih =>
   intro b h
   cases b with
   | nil=>simpa [gC] using h
   | cons d k =>
    intro x hx hf
    simp only [gC] at hx
    rcases List.mem_cons.1 hx with rfl | hx
    ·unfold nE at hf⊢
     split
     ·rfl
     ·rename_i hc
      rw [if_neg hc] at hf
      exact h c (by simp) hf
    ·exact ih k (fun y hy=>h y (by simp [hy])) x hx hf
 exact this a b ha.2
theorem qTp {a b:KV} (ha:WfV a) (hb:WfV b):vle a (gC a b):=by
 refine ⟨(zL a b).symm,fun i hi=>?_⟩
 rw [sL a b i hi (by rw [hb.1,←ha.1]; exact hi)]
 unfold nE
 split
 ·exact .inl rfl
 ·exact nH _
theorem qTo {a b:KV} (ha:WfV a) (hb:WfV b):vle b (gC a b):=by
 refine ⟨by rw [zL,ha.1,hb.1],fun i hi=>?_⟩
 have hia:i<a.length:=by rw [ha.1,←hb.1]; exact hi
 rw [sL a b i hia hi]
 unfold nE
 split
 ·exact .inl rfl
 ·rename_i hc
  cases hk:(a.getD i default).is_ with
  | false=>rw [qY5 ha i hk]; exact .inl rfl
  | true =>
   rw [hk] at hc
   simp only [Bool.true_and,Bool.not_eq_true',decide_eq_false_iff_not,Decidable.not_not] at hc
   exact .inr hc.symm
theorem qNe {a b c:KV} (ha:vle a c) (hb:vle b c):vle (gC a b) c:=by
 refine ⟨by rw [zL]; exact ha.1,fun i hi=>?_⟩
 rw [zL] at hi
 have hib:i<b.length:=by rw [hb.1,←ha.1]; exact hi
 rw [sL a b i hi hib]
 unfold nE
 split
 ·rename_i hc
  simp only [qZ8,Bool.not_eq_true',decide_eq_false_iff_not] at hc
  rcases ha.2 i hi with e | e
  ·exact .inl e
  ·rcases hb.2 i hib with e' | e'
   ·exact .inl e'
   ·exact absurd (e.trans e'.symm) hc.2
 ·exact ha.2 i hi
theorem qEb :∀{a b:KV},qBk a b=false→gC a b=a
 | [],_,_=>by simp [gC]
 | _::_,[],_=>by simp [gC]
 | a::l,b::k,h=>by
  simp only [qBk,Bool.or_eq_false_iff] at h
  simp only [gC,qEb h.2]
  unfold nE
  have:=h.1
  unfold qTx at this
  rw [if_neg (by rw [this]; simp)]
def cnt:KV→Nat
 | []=>0
 | a::l=>(if a.is_ then 1 else 0)+cnt l
theorem qUx :∀(a:KV),cnt a≤a.length
 | []=>by simp [cnt]
 | a::l=>by
  have:=qUx l
  simp only [cnt,List.length_cons]
  split<;>omega
theorem qKz :∀(a b:KV),cnt (gC a b)≤cnt a∧(qBk a b=true→cnt (gC a b)<cnt a)
 | [],_=>by simp [gC,qBk,cnt]
 | _::_,[]=>by simp [gC,qBk]
 | a::l,b::k=>by
  have ih:=qKz l k
  have h1:(if (nE a b).is_ then 1 else 0)≤(if a.is_ then 1 else 0:Nat):=by
   unfold nE
   split
   ·simp [kno]
   ·exact Nat.le_refl _
  simp only [gC,qBk,cnt]
  refine ⟨by have:=ih.1; omega,fun h=>?_⟩
  rw [qZj] at h
  rcases h with h | h
  ·have h2:(if (nE a b).is_ then 1 else 0)<(if a.is_ then 1 else 0:Nat):=by
    unfold qTx at h
    unfold nE
    rw [if_pos h]
    simp only [qZ8] at h
    simp [kno,h.1]
   have:=ih.1
   omega
  ·have:=ih.2 h
   omega
def qLc:KV:=[⟨true,0⟩,⟨true,0⟩,⟨true,0⟩,⟨true,0⟩]
def bl (a b:KV):Prop:=a=[]∨(b≠[]∧vle a b)
theorem qWu (a:KV):bl a a:=by
 by_cases h:a=[]
 ·exact .inl h
 ·exact .inr ⟨h,qD5 a⟩
abbrev kat (S:KS) (i:Nat):KV:=S.getD i []
def EOk (l:List Ins) (S:KS) (a:Nat):Prop:=kat S a≠[]→∀n∈vM l a,kat S n.toNat≠[]∧vle (fG (l.getD a default) (kat S a)) (kat S n.toNat)
structure qVh (l:List Ins) (T:KS):Prop where
 len:T.length=l.length
 wf :∀i,kat T i=[]∨WfV (kat T i)
 init:kat T 0≠[]∧vle qLc (kat T 0)
 edge :∀a,a<l.length→EOk l T a
structure qSh (l:List Ins) (S:KS):Prop where
 len:S.length=l.length
 wf :∀i,kat S i=[]∨WfV (kat S i)
 init:kat S 0≠[]∧vle qLc (kat S 0)
 least :∀T,qVh l T→∀i,bl (kat S i) (kat T i)
structure qVi (l:List Ins) (S:KS):Prop where
 inv:qSh l S
 edge :∀a,a<l.length→EOk l S a
def upd (S:KS) (out:KV) (n:Nat):KS:=S.set n (if kat S n=[] then out else gC (kat S n) out)
def qQ8 (S:KS) (out:KV) (n:Nat):Bool:=decide (kat S n=[])||qBk (kat S n) out
theorem qId (S:KS) (out:KV) (n i:Nat) (h:n<S.length):kat (upd S out n) i=if i=n then (if kat S n=[] then out else gC (kat S n) out) else kat S i:=jC _ _ _ _ _ h
theorem qMr (S:KS) (out:KV) (n:Nat):(upd S out n).length=S.length:=wAp
theorem qGa {a:KV} (h:WfV a):a≠[]:=fun e=>by have:=h.1; rw [e] at this; simp at this
theorem qXg {S:KS} {out:KV} {n:Nat} (hn:n<S.length) (hw:kat S n=[]∨WfV (kat S n)) (ho:WfV out) (i:Nat):bl (kat S i) (kat (upd S out n) i):=by
 rw [qId S out n i hn]
 split
 ·rename_i e
  subst e
  split
  ·rename_i h; exact .inl h
  ·rename_i h
   have hw':WfV (kat S i):=hw.resolve_left h
   exact .inr ⟨qGa (qCs _ hw'),qTp hw' ho⟩
 ·exact qWu _
theorem qVk {S:KS} {out:KV} {n:Nat} (hn:n<S.length) (hw:kat S n=[]∨WfV (kat S n)) (ho:WfV out):kat (upd S out n) n≠[]∧vle out (kat (upd S out n) n):=by
 rw [qId S out n n hn,if_pos rfl]
 split
 ·exact ⟨qGa ho,qD5 _⟩
 ·rename_i h
  have hw':WfV (kat S n):=hw.resolve_left h
  exact ⟨qGa (qCs _ hw'),qTo hw' ho⟩
theorem qSn {S:KS} {out:KV} {n:Nat} (h:qQ8 S out n=false):upd S out n=S:=by
 unfold qQ8 at h
 simp only [Bool.or_eq_false_iff,decide_eq_false_iff_not] at h
 unfold upd
 rw [if_neg h.1,qEb h.2]
 by_cases hn:n<S.length
 ·apply List.ext_getElem (by simp)
  intro i h1 h2
  rw [List.getElem_set]
  split
  ·rename_i e
   subst e
   simp [kat,qZa,hn]
  ·rfl
 ·exact wB3 (by omega)
def wS (v:KV):Nat:=if v=[] then 5 else cnt v
def mS (S:KS):Nat:=pO wS S
theorem qKc {α:Type} (w:α→Nat) (d:α) :∀(l:List α) (i:Nat) (a:α),i<l.length→pO w (l.set i a)+w (l.getD i d)=pO w l+w a
 | [],i,a,h=>by simp at h
 | x::l,0,a,h=>by simp [pO]; omega
 | x::l,i+1,a,h=>by
  have:=qKc w d l i a (by simpa using h)
  simp only [List.set_cons_succ,pO,wB5]
  omega
theorem qSo {S:KS} {out:KV} {n:Nat} (hn:n<S.length) (hw:kat S n=[]∨WfV (kat S n)) (ho:WfV out):mS (upd S out n)≤mS S∧(qQ8 S out n=true→mS (upd S out n)<mS S):=by
 have ht:=qKc wS [] S n (if kat S n=[] then out else gC (kat S n) out) hn
 have e:pO wS (upd S out n)=mS (upd S out n):=rfl
 have hk:S.getD n []=kat S n:=rfl
 unfold upd at e⊢
 unfold qQ8 mS at *
 rw [hk] at ht
 by_cases h:kat S n=[]
 ·rw [if_pos h] at ht⊢
  have h1:wS (kat S n)=5:=by unfold wS; rw [if_pos h]
  have h2:wS out≤4:=by unfold wS; rw [if_neg (qGa ho)]; have:=qUx out; rw [ho.1] at this; exact this
  exact ⟨by omega,fun _=>by omega⟩
 ·rw [if_neg h] at ht⊢
  have hw':WfV (kat S n):=hw.resolve_left h
  have h1:wS (kat S n)=cnt (kat S n):=by unfold wS; rw [if_neg h]
  have h2:wS (gC (kat S n) out)=cnt (gC (kat S n) out):=by unfold wS; rw [if_neg (qGa (qCs _ hw'))]
  have hm:=qKz (kat S n) out
  refine ⟨by have:=hm.1; omega,fun hd=>?_⟩
  rw [qZj] at hd
  rcases hd with hd | hd
  ·exact absurd (by simpa using hd) h
  ·have:=hm.2 hd
   omega
theorem qVl {l:List Ins} {S:KS} {out:KV} {n:Nat} (h:qSh l S) (hn:n<l.length) (ho:WfV out) (hl :∀T,qVh l T→kat T n≠[]∧vle out (kat T n)):qSh l (upd S out n):=by
 have hn':n<S.length:=by rw [h.len]; exact hn
 refine ⟨by rw [qMr]; exact h.len,fun i=>?_,?_,fun T hT i=>?_⟩
 ·rw [qId S out n i hn']
  split
  ·split
   ·exact .inr ho
   ·rename_i e
    exact .inr (qCs _ ((h.wf n).resolve_left e))
  ·exact h.wf i
 ·have hb:=qXg hn' (h.wf n) ho 0
  rcases hb with hb | hb
  ·exact absurd hb h.init.1
  ·exact ⟨hb.1,qGb h.init.2 hb.2⟩
 ·rw [qId S out n i hn']
  split
  ·rename_i e
   subst e
   have hT':=hl T hT
   split
   ·exact .inr hT'
   ·rename_i e
    have hb:=h.least T hT i
    rcases hb with hb | hb
    ·exact absurd hb e
    ·exact .inr ⟨hb.1,qNe hb.2 hT'.2⟩
  ·exact h.least T hT i
theorem qXl {l:List Ins} {S:KS} {a:Nat} (h:qSh l S) (ha:a<l.length) (hx:qJz (l.getD a default)) (hs:kat S a≠[]) (T:KS) (hT:qVh l T) (n:Int) (hn:n∈vM l a):kat T n.toNat≠[]∧vle (fG (l.getD a default) (kat S a)) (kat T n.toNat):=by
 have hb:=h.least T hT a
 rcases hb with hb | hb
 ·exact absurd hb hs
 ·have he:=hT.edge a ha hb.1 n hn
  exact ⟨he.1,qGb (qMd hx ((h.wf a).resolve_left hs) ((hT.wf a).resolve_left hb.1) hb.2) he.2⟩
theorem aY {l:List Ins} (h:wJ l 3=true) {a:Nat} (ha:a<l.length) :∀n∈vM l a,0≤n∧n.toNat<l.length:=by
 unfold wJ at h
 simp only [qZ8,wB2,qZj,decide_eq_true_eq] at h
 obtain ⟨⟨⟨_,hl⟩,hall⟩,hlast⟩:=h
 have hx:=hall _ (yL l a default ha)
 have hnl:(l.getD a default).op≠13→(l.getD a default).op≠11→a+1<l.length:=fun h1 h2=>by
  apply Nat.lt_of_le_of_ne ha
  intro e
  have:l.length-1=a:=by omega
  unfold aD at hlast
  rw [this] at hlast
  rcases hlast with h3 | h3
  ·exact h1 h3
  ·exact h2 h3
 have hj:((l.getD a default).op=11∨(l.getD a default).op=12)→0≤(l.getD a default).n∧(l.getD a default).n<l.length:=fun ho=>by
  unfold jR at hx
  rcases ho with ho | ho
  ·simp only [ho,qZ8] at hx
   simp [-qZa] at hx
   omega
  ·simp only [ho,qZ8] at hx
   simp [-qZa] at hx
   omega
 intro n hn
 unfold vM at hn
 simp only at hn
 generalize (l.getD a default)=x at *
 split at hn
 ·simp at hn
 ·rename_i h13
  split at hn
  ·rename_i h11
   have:=hj (.inl h11)
   simp at hn
   omega
  ·rename_i h11
   have hn1:=hnl h13 h11
   split at hn
   ·rename_i h12
    have:=hj (.inr h12)
    split at hn
    ·simp at hn
     omega
    ·split at hn
     ·simp at hn
      omega
     ·simp at hn
      omega
   ·simp at hn
    omega
theorem qAy {l:List Ins} (h:wJ l 3=true) {a:Nat} (ha:a<l.length):qJz (l.getD a default):=by
 unfold wJ at h
 simp only [qZ8,wB2] at h
 exact qVz (h.1.2 _ (yL l a default ha))
theorem kJ {l:List Ins} {ch:Int} (h:wJ l ch=true):1≤l.length∧l.length≤24:=by
 unfold wJ at h
 simp only [qZ8,qK] at h
 omega
def qJ3 (n:Nat):KS:=(qZ2 n []).set 0 qLc
theorem qAo (n i:Nat) (h:0<n):kat (qJ3 n) i=if i=0 then qLc else []:=by
 unfold qJ3 kat
 rw [jC _ _ _ _ _ (by simpa using h)]
 split
 ·rfl
 ·simp [qZa,List.getElem?_replicate]
  split<;>rfl
theorem qNk {l:List Ins} (h:0<l.length):qSh l (qJ3 l.length):=by
 refine ⟨by simp [qJ3],fun i=>?_,?_,fun T hT i=>?_⟩
 ·rw [qAo _ _ h]
  split
  ·exact .inr qOo
  ·exact .inl rfl
 ·rw [qAo _ _ h,if_pos rfl]
  exact ⟨qGa qOo,qD5 _⟩
 ·rw [qAo _ _ h]
  split
  ·rename_i e
   subst e
   exact .inr hT.init
  ·exact .inl rfl
theorem qTw {l:List Ins} (hb:wJ l 3=true) :∀(m:Nat) (S:KS),qSh l S→mS S=m→∃K,qVi l K:=by
 intro m
 induction m using Nat.strongRecOn with
 | ind m ih =>
  intro S hS hm
  by_cases he :∀a,a<l.length→EOk l S a
  ·exact ⟨S,hS,he⟩
  ·have ⟨a,ha⟩:=Classical.not_forall.1 he
   have ⟨ha1,ha2⟩:=Classical.not_imp.1 ha
   unfold EOk at ha2
   have ⟨hs,h3⟩:=Classical.not_imp.1 ha2
   have ⟨n,h4⟩:=Classical.not_forall.1 h3
   have ⟨hn,h5⟩:=Classical.not_imp.1 h4
   have hni:=(aY hb ha1 n hn).2
   have hwo:=qSa (l.getD a default) ((hS.wf a).resolve_left hs)
   have hni':n.toNat<S.length:=by rw [hS.len]; exact hni
   have hd:qQ8 S (fG (l.getD a default) (kat S a)) n.toNat=true:=by
    cases h6:qQ8 S (fG (l.getD a default) (kat S a)) n.toNat with
    | true=>rfl
    | false =>
     have e:=qSn h6
     have hnew:=qVk hni' (hS.wf n.toNat) hwo
     rw [e] at hnew
     exact absurd hnew h5
   have hmm:=(qSo hni' (hS.wf n.toNat) hwo).2 hd
   exact ih _ (by omega) _ (qVl hS hni hwo fun T hT=>qXl hS ha1 (qAy hb ha1) hs T hT n hn) rfl
theorem qEa {l:List Ins} (hb:wJ l 3=true) :∃K,qVi l K:=qTw hb _ _ (qNk (kJ hb).1) rfl
end Go.Sep
