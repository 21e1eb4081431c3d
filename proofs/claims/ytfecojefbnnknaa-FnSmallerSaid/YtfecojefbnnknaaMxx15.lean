/- Contracts of functions. -/
import Derived.Test.YtfecojefbnnknaaMxx6
import Derived.Test.YtfecojefbnnknaaMxx7
open Bool renaming and_eq_true → wCs, or_eq_true → wD3
open List renaming all_eq_true → wEk, ext_getElem → wEl, foldl_cons → wEn, getD_cons_succ → wEo, getD_eq_getElem?_getD → wCu, length_set → wE9, map_cons → wCp, mem_map → wE8, replicate → wCm, set_eq_of_length_le → wEm
namespace Go.Sep
set_option maxHeartbeats 16000000
open Go.Proofs
set_option linter.unusedSimpArgs false
set_option linter.unusedVariables false
set_option maxRecDepth 100000
structure uW where
 is_:Bool
 v:Int
 deriving DecidableEq,Inhabited
def nF (x:uW):List AV:=[.bool x.is_,.int .i64 x.v]
def yP (l:List uW):List (List AV):=l.map nF
theorem qQd:yP []=[]:=rfl
theorem lI (l:List uW):(yP l).length=l.length:=by simp [yP]
theorem qIa (l k:List uW):yP l++yP k=yP (l++k):=by simp [yP]
theorem qDl (l:List uW) (n:Nat):(yP l).drop n=yP (l.drop n):=by simp [yP]
theorem qDk (l:List uW) (n:Nat):(yP l).take n=yP (l.take n):=by simp [yP]
theorem aM (l:List uW) (i:Nat) (is__:Bool) (v_:Int):(yP l).set i [.bool is__,.int .i64 v_]=yP (l.set i ⟨is__,v_⟩):=by simp [yP,nF]
theorem zB (l:List uW) (i:Nat) (h:i<l.length):(yP l).getD i []=[.bool (l.getD i default).is_,.int .i64 (l.getD i default).v]:=by simp [yP,nF,List.getD_eq_getElem?_getD,h]
theorem iH (A:Nat→Prop) (l:List uW):yY A (yP l)↔True:=by
 simp only [iff_true]
 induction l with
 | nil=>trivial
 | cons x l ih=>exact ⟨by simp [nF,jK,bnd,zX,yZ,uB,jR,vL,uG,uR,vI,gE,gZ,bA,cG],ih⟩
theorem rS (l:List uW):nbr (yP l)↔True:=by
 simp only [iff_true]
 induction l with
 | nil=>trivial
 | cons x l ih=>exact ⟨by simp [nF,nbs,nb,uA,bX,vN,bD,bP,bC,vY,dV,zG,gH,lN],ih⟩
theorem mC :∀(l:List uW),bwR (yP l)=yP l
 | []=>rfl
 | x::l=>by
  have:=mC l
  simp only [yP,wCp,bwR] at this⊢
  rw [this]
  simp [nF,bwL,bwC,uN,bJ,jZ,uP,bE,bN,vR,dC,dY,bL,iR]
theorem qNy (l:List uW):free (yP l)↔True:=by
 simp only [iff_true]
 intro r hr c hc
 simp only [yP,wE8] at hr
 obtain ⟨x,_,rfl⟩:=hr
 simp [nF] at hc
 rcases hc with rfl | rfl<;>rfl
def yB (m:Mode) (l:List (List uW)):List (List AV):=l.map fun b=>[.sl m 2 (yP b)]
theorem qNx (m:Mode):yB m []=[]:=rfl
theorem gJ (m:Mode) (l:List (List uW)):(yB m l).length=l.length:=by simp [yB]
theorem qGh (m:Mode) (l k:List (List uW)):yB m l++yB m k=yB m (l++k):=by simp [yB]
theorem qAu (m:Mode) (l:List (List uW)) (n:Nat):(yB m l).drop n=yB m (l.drop n):=by simp [yB]
theorem qAt (m:Mode) (l:List (List uW)) (n:Nat):(yB m l).take n=yB m (l.take n):=by simp [yB]
theorem cQ (m:Mode) (l:List (List uW)) (i:Nat) (b_:List uW):(yB m l).set i [.sl m 2 (yP b_)]=yB m (l.set i b_):=by simp [yB]
theorem fO (m:Mode) (l:List (List uW)) (i:Nat) (h:i<l.length):(yB m l).getD i []=[.sl m 2 (yP (l.getD i []))]:=by simp [yB,List.getD_eq_getElem?_getD,h]
theorem pF (A:Nat→Prop) (m:Mode) (l:List (List uW)):yY A (yB m l)↔True:=by
 simp only [iff_true]
 induction l with
 | nil=>trivial
 | cons x l ih=>exact ⟨by simp [jK,bnd,zX,yZ,uB,jR,vL,uG,uR,vI,gE,gZ,bA,cG,iH],ih⟩
theorem tD (l:List (List uW)):nbr (yB .own l)↔True:=by
 simp only [iff_true]
 induction l with
 | nil=>trivial
 | cons x l ih=>exact ⟨by simp [nbs,nb,uA,bX,vN,bD,bP,bC,vY,dV,zG,gH,lN,rS],ih⟩
theorem nE (m:Mode) :∀(l:List (List uW)),bwR (yB m l)=yB .bw l
 | []=>rfl
 | x::l=>by
  have:=nE m l
  simp only [yB,wCp,bwR] at this⊢
  rw [this]
  simp [bwL,bwC,uN,bJ,jZ,uP,bE,bN,vR,dC,dY,bL,iR,mC]
theorem qLj (l:List (List uW)):free (yB .bw l)↔True:=by
 simp only [iff_true]
 intro r hr c hc
 simp only [yB,wE8] at hr
 obtain ⟨x,_,rfl⟩:=hr
 simp [] at hc
 rcases hc with rfl<;>rfl
def bU (m:Mode) (l:List (List bM)):List (List AV):=l.map fun b=>[.sl m 2 (jC b)]
theorem qPy (m:Mode):bU m []=[]:=rfl
theorem lG (m:Mode) (l:List (List bM)):(bU m l).length=l.length:=by simp [bU]
theorem qI7 (m:Mode) (l k:List (List bM)):bU m l++bU m k=bU m (l++k):=by simp [bU]
theorem qDf (m:Mode) (l:List (List bM)) (n:Nat):(bU m l).drop n=bU m (l.drop n):=by simp [bU]
theorem qDe (m:Mode) (l:List (List bM)) (n:Nat):(bU m l).take n=bU m (l.take n):=by simp [bU]
theorem qPx (m:Mode) (l:List (List bM)) (i:Nat) (b_:List bM):(bU m l).set i [.sl m 2 (jC b_)]=bU m (l.set i b_):=by simp [bU]
theorem qG1 (A:Nat→Prop) (m:Mode) (l:List (List bM)):yY A (bU m l)↔True:=by
 simp only [iff_true]
 induction l with
 | nil=>trivial
 | cons x l ih=>exact ⟨by simp [jK,bnd,zX,yZ,uB,jR,vL,uG,uR,vI,gE,gZ,bA,cG,iH,pF],ih⟩
theorem qJd (l:List (List bM)):nbr (bU .own l)↔True:=by
 simp only [iff_true]
 induction l with
 | nil=>trivial
 | cons x l ih=>exact ⟨by simp [nbs,nb,uA,bX,vN,bD,bP,bC,vY,dV,zG,gH,lN,rS,tD],ih⟩
theorem qCe (m:Mode) :∀(l:List (List bM)),bwR (bU m l)=bU .bw l
 | []=>rfl
 | x::l=>by
  have:=qCe m l
  simp only [bU,wCp,bwR] at this⊢
  rw [this]
  simp [bwL,bwC,uN,bJ,jZ,uP,bE,bN,vR,dC,dY,bL,iR,mC,nE]
theorem qNf (l:List (List bM)):free (bU .bw l)↔True:=by
 simp only [iff_true]
 intro r hr c hc
 simp only [bU,wE8] at hr
 obtain ⟨x,_,rfl⟩:=hr
 simp [] at hc
 rcases hc with rfl<;>rfl
def vH (l:List Bool):List (List AV):=l.map fun b=>[.bool b]
theorem qR8:vH []=[]:=rfl
theorem lO (l:List Bool):(vH l).length=l.length:=by simp [vH]
theorem qIm (l k:List Bool):vH l++vH k=vH (l++k):=by simp [vH]
theorem qE3 (l:List Bool) (n:Nat):(vH l).drop n=vH (l.drop n):=by simp [vH]
theorem qE2 (l:List Bool) (n:Nat):(vH l).take n=vH (l.take n):=by simp [vH]
theorem qR7 (n:Nat) (b_:Bool):List.replicate n [.bool b_]=vH (List.replicate n b_):=by simp [vH]
theorem qHf (l:List Bool) (i:Nat) (b_:Bool):(vH l).set i [.bool b_]=vH (l.set i b_):=by simp [vH]
theorem kP (l:List Bool) (i:Nat) (h:i<l.length):(vH l).getD i []=[.bool (l.getD i false)]:=by simp [vH,List.getD_eq_getElem?_getD,h]
theorem qR9 (A:Nat→Prop) (l:List Bool):yY A (vH l)↔True:=by
 simp only [iff_true]
 induction l with
 | nil=>trivial
 | cons x l ih=>exact ⟨by simp [jK,bnd,zX,yZ,uB,jR,vL,uG,uR,vI,gE,gZ,bA,cG,iH,pF,qG1],ih⟩
theorem qVg (l:List Bool):nbr (vH l)↔True:=by
 simp only [iff_true]
 induction l with
 | nil=>trivial
 | cons x l ih=>exact ⟨by simp [nbs,nb,uA,bX,vN,bD,bP,bC,vY,dV,zG,gH,lN,rS,tD,qJd],ih⟩
theorem qKb :∀(l:List Bool),bwR (vH l)=vH l
 | []=>rfl
 | x::l=>by
  have:=qKb l
  simp only [vH,wCp,bwR] at this⊢
  rw [this]
  simp [bwL,bwC,uN,bJ,jZ,uP,bE,bN,vR,dC,dY,bL,iR,mC,nE,qCe]
theorem qP0 (l:List Bool):free (vH l)↔True:=by
 simp only [iff_true]
 intro r hr c hc
 simp only [vH,wE8] at hr
 obtain ⟨x,_,rfl⟩:=hr
 simp [] at hc
 rcases hc with rfl<;>rfl
theorem fS3:((∀l,(yP l).length=l.length)∧(∀m l,(yB m l).length=l.length)∧(∀m l,(bU m l).length=l.length)∧(∀l,(vH l).length=l.length)):=⟨by intros; simp [lI],by intros; simp [gJ],by intros; simp [lG],by intros; simp [lO]⟩
attribute [go_sem] lI qIa qDl qDk aM nF gJ qGh qAu qAt cQ lG qI7 qDf qDe qPx lO qIm qE3 qE2 qHf
attribute [simp] qQd mC iH rS lI qDk qDl qNy qNx nE pF tD gJ qAt qAu qLj qPy qCe qG1 qJd lG qDe qDf qNf qR8 qKb qR9 qVg lO qE2 qE3 qP0 nF
abbrev KV:=List uW
abbrev KS:=List KV
def kno:uW:=⟨false,0⟩
def vP (x:Ins):List Int:=if x.op=1∨x.op=2∨x.op=3∨x.op=4∨x.op=7 then [x.r] else if x.op=6∨x.op=8 then [x.r,x.b] else []
def oG (op:Int):Bool:=decide (op=2)||decide (op=3)||decide (op=4)
def zS (x:Ins) (k:KV):KV :=
 let out:=(vP x).foldl (fun o r=>o.set r.toNat kno) k
 if x.op=1 then out.set x.r.toNat ⟨true,x.n⟩
 else if oG x.op&&(k.getD x.a.toNat default).is_&&(k.getD x.b.toNat default).is_ then out.set x.r.toNat ⟨true,uX x.op (k.getD x.a.toNat default).v (k.getD x.b.toNat default).v⟩
 else out
def cM (a b:uW):uW:=if a.is_&&!decide (a=b) then kno else a
def qAs (a b:uW):Bool:=a.is_&&!decide (a=b)
def vJ:KV→KV→KV
 | a::l,b::k=>cM a b::vJ l k
 | l,_=>l
def cP:KV→KV→Bool
 | a::l,b::k=>qAs a b||cP l k
 | _,_=>false
def yD (l:List Ins) (at_:Nat):List Int :=
 let x:Ins:=l.getD at_ default
 if x.op=13 then [] else if x.op=11 then [x.n]
 else if x.op=12 then (if x.n<(at_:Int)+1 then [x.n,(at_:Int)+1] else if (at_:Int)+1<x.n then [(at_:Int)+1,x.n] else [(at_:Int)+1])
 else [(at_:Int)+1]
def WfV (k:KV):Prop:=k.length=4∧∀a∈k,a.is_=false→a=kno
def kle (a b:uW):Prop:=b=kno∨a=b
def vle (a b:KV):Prop:=a.length=b.length∧∀i,i<a.length→kle (a.getD i default) (b.getD i default)
theorem pG (a:uW):kle a a:=.inr rfl
theorem qUn {a b c:uW} (h:kle a b) (k:kle b c):kle a c:=by
 rcases k with rfl | rfl
 ·exact .inl rfl
 ·exact h
theorem qXe {a b:uW} (h:kle a b) (k:kle b a):a=b:=by
 rcases h with rfl | rfl
 ·rcases k with rfl | h
  ·rfl
  ·exact h.symm
 ·rfl
theorem qF1 (a:KV):vle a a:=⟨rfl,fun _ _=>pG _⟩
theorem qIp {a b c:KV} (h:vle a b) (k:vle b c):vle a c:=⟨h.1.trans k.1,fun i hi=>qUn (h.2 i hi) (k.2 i (h.1▸hi))⟩
theorem qVt {a b:KV} (h:vle a b) (k:vle b a):a=b:=by
 apply wEl h.1
 intro i h1 h2
 have e:=qXe (h.2 i h1) (k.2 i h2)
 simpa [wCu,h1,h2] using e
theorem yU {α:Type} (l:List α) (i j:Nat) (a d:α) (hi:i<l.length):(l.set i a).getD j d=if j=i then a else l.getD j d:=by
 by_cases h:j=i
 ·subst h
  simp [wCu,hi]
 ·rw [if_neg h]
  simp [wCu,List.getElem?_set,show¬i=j from fun e=>h e.symm]
theorem wBo {k:KV} (h:WfV k) (i:Nat) (hk:(k.getD i default).is_=false):k.getD i default=kno:=by
 by_cases hi:i<k.length
 ·exact h.2 _ (yL k i default hi) hk
 ·rw [wCu,List.getElem?_eq_none (by omega)]
  rfl
theorem qPg {k:KV} (h:WfV k) (i:Nat) {a:uW} (ha:a.is_=false→a=kno):WfV (k.set i a):=by
 refine ⟨by rw [wE9]; exact h.1,fun b hb=>?_⟩
 rcases List.mem_or_eq_of_mem_set hb with hb | rfl
 ·exact h.2 b hb
 ·exact ha
theorem qRj:WfV [⟨true,0⟩,⟨true,0⟩,⟨true,0⟩,⟨true,0⟩]:=⟨rfl,fun a ha h=>by
 simp at ha
 subst ha
 simp at h⟩
structure qCy (x:Ins):Prop where
 r:0≤x.r∧x.r.toNat<4
 a:0≤x.a∧x.a.toNat<4
 b:0≤x.b∧x.b.toNat<4
theorem qZh {x:Ins} {pl ch:Int} (h:jE x pl ch=true):qCy x:=by
 unfold jE at h
 simp only [wCs,qK] at h
 obtain ⟨⟨⟨⟨h1,h2⟩,h3⟩,_⟩,_⟩:=h
 exact ⟨by omega,by omega,by omega⟩
theorem sJ {k:KV} (h:WfV k) :∀(s:List Int) (o:KV),WfV o→WfV (s.foldl (fun o r=>o.set r.toNat kno) o)
 | [],o,ho=>ho
 | r::s,o,ho=>sJ h s _ (qPg ho _ fun _=>rfl)
theorem qCw (x:Ins) {k:KV} (h:WfV k):WfV (zS x k):=by
 have hf:=sJ h (vP x) k h
 unfold zS
 simp only
 split
 ·exact qPg hf _ (by simp)
 ·split
  ·exact qPg hf _ (by simp)
  ·exact hf
theorem qKq {a b:KV} (h:vle a b) (i:Nat) {c d:uW} (hc:kle c d):vle (a.set i c) (b.set i d):=by
 refine ⟨by simp [h.1],fun j hj=>?_⟩
 rw [wE9] at hj
 by_cases hi:i<a.length
 ·rw [yU _ _ _ _ _ hi,yU _ _ _ _ _ (h.1▸hi)]
  split
  ·exact hc
  ·exact h.2 j hj
 ·rw [wEm (by omega),wEm (by have:=h.1; omega)]
  exact h.2 j hj
theorem qMm :∀(s:List Int) {a b:KV},vle a b→vle (s.foldl (fun o r=>o.set r.toNat kno) a) (s.foldl (fun o r=>o.set r.toNat kno) b)
 | [],_,_,h=>h
 | r::s,_,_,h=>qMm s (qKq h _ (pG _))
theorem qS5 :∀(s:List Int) (r:Int) (k:KV),r∈s→r.toNat<k.length→(s.foldl (fun o r=>o.set r.toNat kno) k).getD r.toNat default=kno
 | [],r,k,h,_=>by simp at h
 | q::s,r,k,h,hr=>by
  simp only [wEn]
  by_cases hs:r∈s
  ·exact qS5 s r _ hs (by simpa using hr)
  ·have e:r=q:=by
    rcases List.mem_cons.1 h with h | h
    ·exact h
    ·exact absurd h hs
   subst e
   have hne :∀(t:List Int) (o:KV),o.getD r.toNat default=kno→r.toNat<o.length→(t.foldl (fun o r=>o.set r.toNat kno) o).getD r.toNat default=kno:=by
    intro t
    induction t with
    | nil=>intro o ho _; exact ho
    | cons p t ih =>
     intro o ho hl
     refine ih _ ?_ (by simpa using hl)
     by_cases hp:p.toNat<o.length
     ·rw [yU _ _ _ _ _ hp]
      split
      ·rfl
      ·exact ho
     ·have e:(fun (o:KV) (r:Int)=>o.set r.toNat kno) o p=o:=wEm (by omega)
      rw [e]
      exact ho
   exact hne s _ (by rw [yU _ _ _ _ _ hr,if_pos rfl]) (by simpa using hr)
theorem qP4 {x:Ins} (hx:qCy x) {a b:KV} (ha:WfV a) (hb:WfV b) (h:vle a b):vle (zS x a) (zS x b):=by
 have hs:=qMm (vP x) h
 unfold zS
 simp only
 split
 ·exact qKq hs _ (pG _)
 ·have la:=h.2 x.a.toNat (by rw [ha.1]; exact hx.a.2)
  have lb:=h.2 x.b.toNat (by rw [ha.1]; exact hx.b.2)
  by_cases hk:oG x.op&&(b.getD x.a.toNat default).is_&&(b.getD x.b.toNat default).is_
  ·have hk':=hk
   simp only [wCs] at hk'
   have ea:a.getD x.a.toNat default=b.getD x.a.toNat default:=by
    rcases la with e | e
    ·rw [e] at hk'; simp [kno] at hk'
    ·exact e
   have eb:a.getD x.b.toNat default=b.getD x.b.toNat default:=by
    rcases lb with e | e
    ·rw [e] at hk'; simp [kno] at hk'
    ·exact e
   rw [ea,eb,if_pos hk,if_pos hk]
   exact qKq hs _ (pG _)
  ·rw [if_neg hk]
   split
   ·rename_i ht
    simp only [wCs] at ht
    have h3:x.r∈vP x:=by
     have:=ht.1.1
     unfold oG at this
     simp at this
     unfold vP
     rw [if_pos (by omega)]
     simp
    have hz:=qS5 (vP x) x.r b h3 (by rw [hb.1]; exact hx.r.2)
    have hlen :∀(s:List Int) (o:KV),(s.foldl (fun o r=>o.set r.toNat kno) o).length=o.length:=by
     intro s
     induction s with
     | nil=>intro o; rfl
     | cons p s ih=>intro o; simp only [wEn]; rw [ih]; simp
    refine ⟨by simp [hlen,h.1],fun j hj=>?_⟩
    rw [wE9] at hj
    have hj0:x.r.toNat<((vP x).foldl (fun o r=>o.set r.toNat kno) a).length:=by rw [hlen,ha.1]; exact hx.r.2
    rw [yU _ _ _ _ _ hj0]
    split
    ·rename_i e
     rw [e,hz]
     exact .inl rfl
    ·exact hs.2 j hj
   ·exact hs
theorem bV :∀(a b:KV),(vJ a b).length=a.length
 | [],_=>by simp [vJ]
 | _::_,[]=>by simp [vJ]
 | a::l,b::k=>by simp [vJ,bV l k]
theorem qAo :∀(a b:KV) (i:Nat),i<a.length→i<b.length→(vJ a b).getD i default=cM (a.getD i default) (b.getD i default)
 | [],_,i,h,_=>by simp at h
 | _::_,[],i,_,h=>by simp at h
 | a::l,b::k,0,_,_=>by simp [vJ]
 | a::l,b::k,i+1,h,g=>by
  simp only [vJ,wEo]
  exact qAo l k i (by simpa using h) (by simpa using g)
theorem qEq {a:KV} (b:KV) (ha:WfV a):WfV (vJ a b):=by
 refine ⟨by rw [bV]; exact ha.1,?_⟩
 have :∀(a b:KV),(∀x∈a,x.is_=false→x=kno)→∀x∈vJ a b,x.is_=false→x=kno:=by
  intro a
  induction a with
  | nil=>intro b _ x hx; simp [vJ] at hx
  | cons c l ih =>
   intro b h
   cases b with
   | nil=>simpa [vJ] using h
   | cons d k =>
    intro x hx hf
    simp only [vJ] at hx
    rcases List.mem_cons.1 hx with rfl | hx
    ·unfold cM at hf⊢
     split
     ·rfl
     ·rename_i hc
      rw [if_neg hc] at hf
      exact h c (by simp) hf
    ·exact ih k (fun y hy=>h y (by simp [hy])) x hx hf
 exact this a b ha.2
theorem qX3 {a b:KV} (ha:WfV a) (hb:WfV b):vle a (vJ a b):=by
 refine ⟨(bV a b).symm,fun i hi=>?_⟩
 rw [qAo a b i hi (by rw [hb.1,←ha.1]; exact hi)]
 unfold cM
 split
 ·exact .inl rfl
 ·exact pG _
theorem qX2 {a b:KV} (ha:WfV a) (hb:WfV b):vle b (vJ a b):=by
 refine ⟨by rw [bV,ha.1,hb.1],fun i hi=>?_⟩
 have hia:i<a.length:=by rw [ha.1,←hb.1]; exact hi
 rw [qAo a b i hia hi]
 unfold cM
 split
 ·exact .inl rfl
 ·rename_i hc
  cases hk:(a.getD i default).is_ with
  | false=>rw [wBo ha i hk]; exact .inl rfl
  | true =>
   rw [hk] at hc
   simp only [Bool.true_and,Bool.not_eq_true',decide_eq_false_iff_not,Decidable.not_not] at hc
   exact .inr hc.symm
theorem qQ6 {a b c:KV} (ha:vle a c) (hb:vle b c):vle (vJ a b) c:=by
 refine ⟨by rw [bV]; exact ha.1,fun i hi=>?_⟩
 rw [bV] at hi
 have hib:i<b.length:=by rw [hb.1,←ha.1]; exact hi
 rw [qAo a b i hi hib]
 unfold cM
 split
 ·rename_i hc
  simp only [wCs,Bool.not_eq_true',decide_eq_false_iff_not] at hc
  rcases ha.2 i hi with e | e
  ·exact .inl e
  ·rcases hb.2 i hib with e' | e'
   ·exact .inl e'
   ·exact absurd (e.trans e'.symm) hc.2
 ·exact ha.2 i hi
theorem qGc :∀{a b:KV},cP a b=false→vJ a b=a
 | [],_,_=>by simp [vJ]
 | _::_,[],_=>by simp [vJ]
 | a::l,b::k,h=>by
  simp only [cP,Bool.or_eq_false_iff] at h
  simp only [vJ,qGc h.2]
  unfold cM
  have:=h.1
  unfold qAs at this
  rw [if_neg (by rw [this]; simp)]
def cnt:KV→Nat
 | []=>0
 | a::l=>(if a.is_ then 1 else 0)+cnt l
theorem qYf :∀(a:KV),cnt a≤a.length
 | []=>by simp [cnt]
 | a::l=>by
  have:=qYf l
  simp only [cnt,List.length_cons]
  split<;>omega
theorem qNl :∀(a b:KV),cnt (vJ a b)≤cnt a∧(cP a b=true→cnt (vJ a b)<cnt a)
 | [],_=>by simp [vJ,cP,cnt]
 | _::_,[]=>by simp [vJ,cP]
 | a::l,b::k=>by
  have ih:=qNl l k
  have h1:(if (cM a b).is_ then 1 else 0)≤(if a.is_ then 1 else 0:Nat):=by
   unfold cM
   split
   ·simp [kno]
   ·exact Nat.le_refl _
  simp only [vJ,cP,cnt]
  refine ⟨by have:=ih.1; omega,fun h=>?_⟩
  rw [wD3] at h
  rcases h with h | h
  ·have h2:(if (cM a b).is_ then 1 else 0)<(if a.is_ then 1 else 0:Nat):=by
    unfold qAs at h
    unfold cM
    rw [if_pos h]
    simp only [wCs] at h
    simp [kno,h.1]
   have:=ih.1
   omega
  ·have:=ih.2 h
   omega
def qJm:KV:=[⟨true,0⟩,⟨true,0⟩,⟨true,0⟩,⟨true,0⟩]
def bl (a b:KV):Prop:=a=[]∨(b≠[]∧vle a b)
theorem wAg (a:KV):bl a a:=by
 by_cases h:a=[]
 ·exact .inl h
 ·exact .inr ⟨h,qF1 a⟩
theorem wAh {a b:KV} (h:bl a b) (k:bl b a):a=b:=by
 rcases h with rfl | ⟨h1,h2⟩
 ·rcases k with rfl | ⟨k1,_⟩
  ·rfl
  ·exact absurd rfl k1
 ·rcases k with rfl | ⟨_,k2⟩
  ·exact absurd rfl h1
  ·exact qVt h2 k2
abbrev kat (S:KS) (i:Nat):KV:=S.getD i []
def EOk (l:List Ins) (S:KS) (a:Nat):Prop:=kat S a≠[]→∀n∈yD l a,kat S n.toNat≠[]∧vle (zS (l.getD a default) (kat S a)) (kat S n.toNat)
structure qT1 (l:List Ins) (T:KS):Prop where
 len:T.length=l.length
 wf :∀i,kat T i=[]∨WfV (kat T i)
 init:kat T 0≠[]∧vle qJm (kat T 0)
 edge :∀a,a<l.length→EOk l T a
structure qHw (l:List Ins) (S:KS):Prop where
 len:S.length=l.length
 wf :∀i,kat S i=[]∨WfV (kat S i)
 init:kat S 0≠[]∧vle qJm (kat S 0)
 least :∀T,qT1 l T→∀i,bl (kat S i) (kat T i)
structure qE8 (l:List Ins) (S:KS):Prop where
 inv:qHw l S
 edge :∀a,a<l.length→EOk l S a
theorem qE8.post {l:List Ins} {S:KS} (h:qE8 l S):qT1 l S:=⟨h.inv.len,h.inv.wf,h.inv.init,h.edge⟩
theorem qQb {l:List Ins} {S T:KS} (h:qE8 l S) (k:qE8 l T):S=T:=by
 apply wEl (h.inv.len.trans k.inv.len.symm)
 intro i h1 h2
 have e:=wAh (h.inv.least T k.post i) (k.inv.least S h.post i)
 simpa [kat,wCu,h1,h2] using e
def upd (S:KS) (out:KV) (n:Nat):KS:=S.set n (if kat S n=[] then out else vJ (kat S n) out)
def qE9 (S:KS) (out:KV) (n:Nat):Bool:=decide (kat S n=[])||cP (kat S n) out
theorem qKs (S:KS) (out:KV) (n i:Nat) (h:n<S.length):kat (upd S out n) i=if i=n then (if kat S n=[] then out else vJ (kat S n) out) else kat S i:=yU _ _ _ _ _ h
theorem qPi (S:KS) (out:KV) (n:Nat):(upd S out n).length=S.length:=wE9
theorem qIo {a:KV} (h:WfV a):a≠[]:=fun e=>by have:=h.1; rw [e] at this; simp at this
theorem wB3 {S:KS} {out:KV} {n:Nat} (hn:n<S.length) (hw:kat S n=[]∨WfV (kat S n)) (ho:WfV out) (i:Nat):bl (kat S i) (kat (upd S out n) i):=by
 rw [qKs S out n i hn]
 split
 ·rename_i e
  subst e
  split
  ·rename_i h; exact .inl h
  ·rename_i h
   have hw':WfV (kat S i):=hw.resolve_left h
   exact .inr ⟨qIo (qEq _ hw'),qX3 hw' ho⟩
 ·exact wAg _
theorem qRl {S:KS} {out:KV} {n:Nat} (hn:n<S.length) (hw:kat S n=[]∨WfV (kat S n)) (ho:WfV out):kat (upd S out n) n≠[]∧vle out (kat (upd S out n) n):=by
 rw [qKs S out n n hn,if_pos rfl]
 split
 ·exact ⟨qIo ho,qF1 _⟩
 ·rename_i h
  have hw':WfV (kat S n):=hw.resolve_left h
  exact ⟨qIo (qEq _ hw'),qX2 hw' ho⟩
theorem qMo {S:KS} {out:KV} {n:Nat} (h:qE9 S out n=false):upd S out n=S:=by
 unfold qE9 at h
 simp only [Bool.or_eq_false_iff,decide_eq_false_iff_not] at h
 unfold upd
 rw [if_neg h.1,qGc h.2]
 by_cases hn:n<S.length
 ·apply wEl (by simp)
  intro i h1 h2
  rw [List.getElem_set]
  split
  ·rename_i e
   subst e
   simp [kat,wCu,hn]
  ·rfl
 ·exact wEm (by omega)
def wS (v:KV):Nat:=if v=[] then 5 else cnt v
def mS (S:KS):Nat:=sS wS S
theorem qMv {α:Type} (w:α→Nat) (d:α) :∀(l:List α) (i:Nat) (a:α),i<l.length→sS w (l.set i a)+w (l.getD i d)=sS w l+w a
 | [],i,a,h=>by simp at h
 | x::l,0,a,h=>by simp [sS]; omega
 | x::l,i+1,a,h=>by
  have:=qMv w d l i a (by simpa using h)
  simp only [List.set_cons_succ,sS,wEo]
  omega
theorem qMp {S:KS} {out:KV} {n:Nat} (hn:n<S.length) (hw:kat S n=[]∨WfV (kat S n)) (ho:WfV out):mS (upd S out n)≤mS S∧(qE9 S out n=true→mS (upd S out n)<mS S):=by
 have ht:=qMv wS [] S n (if kat S n=[] then out else vJ (kat S n) out) hn
 have e:sS wS (upd S out n)=mS (upd S out n):=rfl
 have hk:S.getD n []=kat S n:=rfl
 unfold upd at e⊢
 unfold qE9 mS at *
 rw [hk] at ht
 by_cases h:kat S n=[]
 ·rw [if_pos h] at ht⊢
  have h1:wS (kat S n)=5:=by unfold wS; rw [if_pos h]
  have h2:wS out≤4:=by unfold wS; rw [if_neg (qIo ho)]; have:=qYf out; rw [ho.1] at this; exact this
  exact ⟨by omega,fun _=>by omega⟩
 ·rw [if_neg h] at ht⊢
  have hw':WfV (kat S n):=hw.resolve_left h
  have h1:wS (kat S n)=cnt (kat S n):=by unfold wS; rw [if_neg h]
  have h2:wS (vJ (kat S n) out)=cnt (vJ (kat S n) out):=by unfold wS; rw [if_neg (qIo (qEq _ hw'))]
  have hm:=qNl (kat S n) out
  refine ⟨by have:=hm.1; omega,fun hd=>?_⟩
  rw [wD3] at hd
  rcases hd with hd | hd
  ·exact absurd (by simpa using hd) h
  ·have:=hm.2 hd
   omega
theorem qRm {l:List Ins} {S:KS} {out:KV} {n:Nat} (h:qHw l S) (hn:n<l.length) (ho:WfV out) (hl :∀T,qT1 l T→kat T n≠[]∧vle out (kat T n)):qHw l (upd S out n):=by
 have hn':n<S.length:=by rw [h.len]; exact hn
 refine ⟨by rw [qPi]; exact h.len,fun i=>?_,?_,fun T hT i=>?_⟩
 ·rw [qKs S out n i hn']
  split
  ·split
   ·exact .inr ho
   ·rename_i e
    exact .inr (qEq _ ((h.wf n).resolve_left e))
  ·exact h.wf i
 ·have hb:=wB3 hn' (h.wf n) ho 0
  rcases hb with hb | hb
  ·exact absurd hb h.init.1
  ·exact ⟨hb.1,qIp h.init.2 hb.2⟩
 ·rw [qKs S out n i hn']
  split
  ·rename_i e
   subst e
   have hT':=hl T hT
   split
   ·exact .inr hT'
   ·rename_i e
    have hb:=h.least T hT i
    rcases hb with hb | hb
    ·exact absurd hb e
    ·exact .inr ⟨hb.1,qQ6 hb.2 hT'.2⟩
  ·exact h.least T hT i
theorem qWq {l:List Ins} {S:KS} {a:Nat} (h:qHw l S) (ha:a<l.length) (hx:qCy (l.getD a default)) (hs:kat S a≠[]) (T:KS) (hT:qT1 l T) (n:Int) (hn:n∈yD l a):kat T n.toNat≠[]∧vle (zS (l.getD a default) (kat S a)) (kat T n.toNat):=by
 have hb:=h.least T hT a
 rcases hb with hb | hb
 ·exact absurd hb hs
 ·have he:=hT.edge a ha hb.1 n hn
  exact ⟨he.1,qIp (qP4 hx ((h.wf a).resolve_left hs) ((hT.wf a).resolve_left hb.1) hb.2) he.2⟩
theorem xE {l:List Ins} (h:wB l 3=true) {a:Nat} (ha:a<l.length) :∀n∈yD l a,0≤n∧n.toNat<l.length:=by
 unfold wB at h
 simp only [wCs,wEk,wD3,decide_eq_true_eq] at h
 obtain ⟨⟨⟨_,hl⟩,hall⟩,hlast⟩:=h
 have hx:=hall _ (yL l a default ha)
 have hnl:(l.getD a default).op≠13→(l.getD a default).op≠11→a+1<l.length:=fun h1 h2=>by
  apply Nat.lt_of_le_of_ne ha
  intro e
  have:l.length-1=a:=by omega
  unfold dZ at hlast
  rw [this] at hlast
  rcases hlast with h3 | h3
  ·exact h1 h3
  ·exact h2 h3
 have hj:((l.getD a default).op=11∨(l.getD a default).op=12)→0≤(l.getD a default).n∧(l.getD a default).n<l.length:=fun ho=>by
  unfold jE at hx
  rcases ho with ho | ho
  ·simp only [ho,wCs] at hx
   simp [-wCu] at hx
   omega
  ·simp only [ho,wCs] at hx
   simp [-wCu] at hx
   omega
 intro n hn
 unfold yD at hn
 simp only at hn
 generalize (l.getD a default)=x at *
 split at hn
 ·simp at hn
 ·rename_i h13
  split at hn
  ·rename_i h11
   have:=hj (.inl h11)
   simp at hn
   omega
  ·rename_i h11
   have hn1:=hnl h13 h11
   split at hn
   ·rename_i h12
    have:=hj (.inr h12)
    split at hn
    ·simp at hn
     omega
    ·split at hn
     ·simp at hn
      omega
     ·simp at hn
      omega
   ·simp at hn
    omega
theorem mJ {l:List Ins} (h:wB l 3=true) {a:Nat} (ha:a<l.length):qCy (l.getD a default):=by
 unfold wB at h
 simp only [wCs,wEk] at h
 exact qZh (h.1.2 _ (yL l a default ha))
theorem cX {l:List Ins} {ch:Int} (h:wB l ch=true):1≤l.length∧l.length≤24:=by
 unfold wB at h
 simp only [wCs,qK] at h
 omega
def tC (n:Nat):KS:=(wCm n []).set 0 qJm
theorem qCj (n i:Nat) (h:0<n):kat (tC n) i=if i=0 then qJm else []:=by
 unfold tC kat
 rw [yU _ _ _ _ _ (by simpa using h)]
 split
 ·rfl
 ·simp [wCu,List.getElem?_replicate]
  split<;>rfl
theorem qGg {l:List Ins} (h:0<l.length):qHw l (tC l.length):=by
 refine ⟨by simp [tC],fun i=>?_,?_,fun T hT i=>?_⟩
 ·rw [qCj _ _ h]
  split
  ·exact .inr qRj
  ·exact .inl rfl
 ·rw [qCj _ _ h,if_pos rfl]
  exact ⟨qIo qRj,qF1 _⟩
 ·rw [qCj _ _ h]
  split
  ·rename_i e
   subst e
   exact .inr hT.init
  ·exact .inl rfl
theorem qX8 {l:List Ins} (hb:wB l 3=true) :∀(m:Nat) (S:KS),qHw l S→mS S=m→∃K,qE8 l K:=by
 intro m
 induction m using Nat.strongRecOn with
 | ind m ih =>
  intro S hS hm
  by_cases he :∀a,a<l.length→EOk l S a
  ·exact ⟨S,hS,he⟩
  ·have ⟨a,ha⟩:=Classical.not_forall.1 he
   have ⟨ha1,ha2⟩:=Classical.not_imp.1 ha
   unfold EOk at ha2
   have ⟨hs,h3⟩:=Classical.not_imp.1 ha2
   have ⟨n,h4⟩:=Classical.not_forall.1 h3
   have ⟨hn,h5⟩:=Classical.not_imp.1 h4
   have hni:=(xE hb ha1 n hn).2
   have hwo:=qCw (l.getD a default) ((hS.wf a).resolve_left hs)
   have hni':n.toNat<S.length:=by rw [hS.len]; exact hni
   have hd:qE9 S (zS (l.getD a default) (kat S a)) n.toNat=true:=by
    cases h6:qE9 S (zS (l.getD a default) (kat S a)) n.toNat with
    | true=>rfl
    | false =>
     have e:=qMo h6
     have hnew:=qRl hni' (hS.wf n.toNat) hwo
     rw [e] at hnew
     exact absurd hnew h5
   have hmm:=(qMp hni' (hS.wf n.toNat) hwo).2 hd
   exact ih _ (by omega) _ (qRm hS hni hwo fun T hT=>qWq hS ha1 (mJ hb ha1) hs T hT n hn) rfl
theorem qGb {l:List Ins} (hb:wB l 3=true) :∃K,qE8 l K:=qX8 hb _ _ (qGg (cX hb).1) rfl
def aC (S:KS):KS:=S.map fun v=>if v=[] then wCm 4 kno else v
def iI (l:List Ins) (K:KS):KS:=if wB l 3 then aC K else []
end Go.Sep
