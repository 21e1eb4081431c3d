/- Contracts of functions. -/
import Derived.Test.YtbfklilhgekabaaFxx6
import Derived.Test.YtbfklilhgekabaaFxx7
open Bool renaming and_eq_true → qZa, or_eq_true → qZl
open List renaming all_eq_true → wB4, ext_getElem → wB5, foldl_cons → wB7, getD_cons_succ → wB8, getD_eq_getElem?_getD → qZc, length_set → wAr, map_cons → qZ7, mem_map → wAq, replicate → qZ4, set_eq_of_length_le → wB6
namespace Go.Sep
set_option maxHeartbeats 16000000
open Go.Proofs
set_option linter.unusedSimpArgs false
set_option linter.unusedVariables false
set_option maxRecDepth 100000
structure vZ where
 is_:Bool
 v:Int
 deriving DecidableEq,Inhabited
def fU (x:vZ):List AV:=[.bool x.is_,.int .i64 x.v]
def wN (l:List vZ):List (List AV):=l.map fU
theorem qOt:wN []=[]:=rfl
theorem kI (l:List vZ):(wN l).length=l.length:=by simp [wN]
theorem qHc (l k:List vZ):wN l++wN k=wN (l++k):=by simp [wN]
theorem qCp (l:List vZ) (n:Nat):(wN l).drop n=wN (l.drop n):=by simp [wN]
theorem qCo (l:List vZ) (n:Nat):(wN l).take n=wN (l.take n):=by simp [wN]
theorem uE (l:List vZ) (i:Nat) (is__:Bool) (v_:Int):(wN l).set i [.bool is__,.int .i64 v_]=wN (l.set i ⟨is__,v_⟩):=by simp [wN,fU]
theorem jE (l:List vZ) (i:Nat) (h:i<l.length):(wN l).getD i []=[.bool (l.getD i default).is_,.int .i64 (l.getD i default).v]:=by simp [wN,fU,List.getD_eq_getElem?_getD,h]
theorem fT (A:Nat→Prop) (l:List vZ):yX A (wN l)↔True:=by
 simp only [iff_true]
 induction l with
 | nil=>trivial
 | cons x l ih=>exact ⟨by simp [fU,jL,bnd,zS,yZ,uG,jR,vT,uJ,uV,vJ,gI,gX,bC,cA],ih⟩
theorem rE (l:List vZ):nbr (wN l)↔True:=by
 simp only [iff_true]
 induction l with
 | nil=>trivial
 | cons x l ih=>exact ⟨by simp [fU,nbs,nb,uF,gA,vM,bE,bS,bD,uC,dT,zE,gL,kK],ih⟩
theorem lF :∀(l:List vZ),bwR (wN l)=wN l
 | []=>rfl
 | x::l=>by
  have:=lF l
  simp only [wN,qZ7,bwR] at this⊢
  rw [this]
  simp [fU,bwL,bwC,uS,bL,vD,uT,bF,bR,vQ,dA,dY,bO,hZ]
theorem qMj (l:List vZ):free (wN l)↔True:=by
 simp only [iff_true]
 intro r hr c hc
 simp only [wN,wAq] at hr
 obtain ⟨x,_,rfl⟩:=hr
 simp [fU] at hc
 rcases hc with rfl | rfl<;>rfl
def wL (m:Mode) (l:List (List vZ)):List (List AV):=l.map fun b=>[.sl m 2 (wN b)]
theorem qMi (m:Mode):wL m []=[]:=rfl
theorem uD (m:Mode) (l:List (List vZ)):(wL m l).length=l.length:=by simp [wL]
theorem oS (m:Mode) (l k:List (List vZ)):wL m l++wL m k=wL m (l++k):=by simp [wL]
theorem qMh (m:Mode) (b_:List vZ):[[.sl m 2 (wN b_)]]=wL m [b_]:=rfl
theorem qAe (m:Mode) (l:List (List vZ)) (n:Nat):(wL m l).drop n=wL m (l.drop n):=by simp [wL]
theorem qAd (m:Mode) (l:List (List vZ)) (n:Nat):(wL m l).take n=wL m (l.take n):=by simp [wL]
theorem dE (m:Mode) (l:List (List vZ)) (i:Nat) (b_:List vZ):(wL m l).set i [.sl m 2 (wN b_)]=wL m (l.set i b_):=by simp [wL]
theorem bY (m:Mode) (l:List (List vZ)) (i:Nat) (h:i<l.length):(wL m l).getD i []=[.sl m 2 (wN (l.getD i []))]:=by simp [wL,List.getD_eq_getElem?_getD,h]
theorem oR (A:Nat→Prop) (m:Mode) (l:List (List vZ)):yX A (wL m l)↔True:=by
 simp only [iff_true]
 induction l with
 | nil=>trivial
 | cons x l ih=>exact ⟨by simp [jL,bnd,zS,yZ,uG,jR,vT,uJ,uV,vJ,gI,gX,bC,cA,fT],ih⟩
theorem sW (l:List (List vZ)):nbr (wL .own l)↔True:=by
 simp only [iff_true]
 induction l with
 | nil=>trivial
 | cons x l ih=>exact ⟨by simp [nbs,nb,uF,gA,vM,bE,bS,bD,uC,dT,zE,gL,kK,rE],ih⟩
theorem mI (m:Mode) :∀(l:List (List vZ)),bwR (wL m l)=wL .bw l
 | []=>rfl
 | x::l=>by
  have:=mI m l
  simp only [wL,qZ7,bwR] at this⊢
  rw [this]
  simp [bwL,bwC,uS,bL,vD,uT,bF,bR,vQ,dA,dY,bO,hZ,lF]
theorem qKa (l:List (List vZ)):free (wL .bw l)↔True:=by
 simp only [iff_true]
 intro r hr c hc
 simp only [wL,wAq] at hr
 obtain ⟨x,_,rfl⟩:=hr
 simp [] at hc
 rcases hc with rfl<;>rfl
def bX (m:Mode) (l:List (List gJ)):List (List AV):=l.map fun b=>[.sl m 2 (jC b)]
theorem qOf (m:Mode):bX m []=[]:=rfl
theorem kG (m:Mode) (l:List (List gJ)):(bX m l).length=l.length:=by simp [bX]
theorem qHa (m:Mode) (l k:List (List gJ)):bX m l++bX m k=bX m (l++k):=by simp [bX]
theorem qCk (m:Mode) (l:List (List gJ)) (n:Nat):(bX m l).drop n=bX m (l.drop n):=by simp [bX]
theorem qCj (m:Mode) (l:List (List gJ)) (n:Nat):(bX m l).take n=bX m (l.take n):=by simp [bX]
theorem qOe (m:Mode) (l:List (List gJ)) (i:Nat) (b_:List gJ):(bX m l).set i [.sl m 2 (jC b_)]=bX m (l.set i b_):=by simp [bX]
theorem qF0 (A:Nat→Prop) (m:Mode) (l:List (List gJ)):yX A (bX m l)↔True:=by
 simp only [iff_true]
 induction l with
 | nil=>trivial
 | cons x l ih=>exact ⟨by simp [jL,bnd,zS,yZ,uG,jR,vT,uJ,uV,vJ,gI,gX,bC,cA,fT,oR],ih⟩
theorem qI5 (l:List (List gJ)):nbr (bX .own l)↔True:=by
 simp only [iff_true]
 induction l with
 | nil=>trivial
 | cons x l ih=>exact ⟨by simp [nbs,nb,uF,gA,vM,bE,bS,bD,uC,dT,zE,gL,kK,rE,sW],ih⟩
theorem qBp (m:Mode) :∀(l:List (List gJ)),bwR (bX m l)=bX .bw l
 | []=>rfl
 | x::l=>by
  have:=qBp m l
  simp only [bX,qZ7,bwR] at this⊢
  rw [this]
  simp [bwL,bwC,uS,bL,vD,uT,bF,bR,vQ,dA,dY,bO,hZ,lF,mI]
theorem qM0 (l:List (List gJ)):free (bX .bw l)↔True:=by
 simp only [iff_true]
 intro r hr c hc
 simp only [bX,wAq] at hr
 obtain ⟨x,_,rfl⟩:=hr
 simp [] at hc
 rcases hc with rfl<;>rfl
def vC (l:List Bool):List (List AV):=l.map fun b=>[.bool b]
theorem qPs:vC []=[]:=rfl
theorem kL (l:List Bool):(vC l).length=l.length:=by simp [vC]
theorem qHn (l k:List Bool):vC l++vC k=vC (l++k):=by simp [vC]
theorem qD6 (l:List Bool) (n:Nat):(vC l).drop n=vC (l.drop n):=by simp [vC]
theorem qD4 (l:List Bool) (n:Nat):(vC l).take n=vC (l.take n):=by simp [vC]
theorem qPr (n:Nat) (b_:Bool):List.replicate n [.bool b_]=vC (List.replicate n b_):=by simp [vC]
theorem qG9 (l:List Bool) (i:Nat) (b_:Bool):(vC l).set i [.bool b_]=vC (l.set i b_):=by simp [vC]
theorem qD5 (l:List Bool) (i:Nat) (h:i<l.length):(vC l).getD i []=[.bool (l.getD i false)]:=by simp [vC,List.getD_eq_getElem?_getD,h]
theorem qPt (A:Nat→Prop) (l:List Bool):yX A (vC l)↔True:=by
 simp only [iff_true]
 induction l with
 | nil=>trivial
 | cons x l ih=>exact ⟨by simp [jL,bnd,zS,yZ,uG,jR,vT,uJ,uV,vJ,gI,gX,bC,cA,fT,oR,qF0],ih⟩
theorem qT9 (l:List Bool):nbr (vC l)↔True:=by
 simp only [iff_true]
 induction l with
 | nil=>trivial
 | cons x l ih=>exact ⟨by simp [nbs,nb,uF,gA,vM,bE,bS,bD,uC,dT,zE,gL,kK,rE,sW,qI5],ih⟩
theorem qJ2 :∀(l:List Bool),bwR (vC l)=vC l
 | []=>rfl
 | x::l=>by
  have:=qJ2 l
  simp only [vC,qZ7,bwR] at this⊢
  rw [this]
  simp [bwL,bwC,uS,bL,vD,uT,bF,bR,vQ,dA,dY,bO,hZ,lF,mI,qBp]
theorem qNj (l:List Bool):free (vC l)↔True:=by
 simp only [iff_true]
 intro r hr c hc
 simp only [vC,wAq] at hr
 obtain ⟨x,_,rfl⟩:=hr
 simp [] at hc
 rcases hc with rfl<;>rfl
theorem fS3:((∀l,(wN l).length=l.length)∧(∀m l,(wL m l).length=l.length)∧(∀m l,(bX m l).length=l.length)∧(∀l,(vC l).length=l.length)):=⟨by intros; simp [kI],by intros; simp [uD],by intros; simp [kG],by intros; simp [kL]⟩
attribute [go_sem] kI qHc qCp qCo uE fU uD oS qAe qAd dE kG qHa qCk qCj qOe kL qHn qD6 qD4 qG9
attribute [simp] qOt lF fT rE kI qCo qCp qMj qMi mI oR sW uD qAd qAe qKa qOf qBp qF0 qI5 kG qCj qCk qM0 qPs qJ2 qPt qT9 kL qD4 qD6 qNj fU
abbrev KV:=List vZ
abbrev KS:=List KV
def kno:vZ:=⟨false,0⟩
def vP (x:Ins):List Int:=if x.op=1∨x.op=2∨x.op=3∨x.op=4∨x.op=7 then [x.r] else if x.op=6∨x.op=8 then [x.r,x.b] else []
def aO (op:Int):Bool:=decide (op=2)||decide (op=3)||decide (op=4)
def bQ (x:Ins) (k:KV):KV :=
 let out:=(vP x).foldl (fun o r=>o.set r.toNat kno) k
 if x.op=1 then out.set x.r.toNat ⟨true,x.n⟩
 else if aO x.op&&(k.getD x.a.toNat default).is_&&(k.getD x.b.toNat default).is_ then out.set x.r.toNat ⟨true,jS x.op (k.getD x.a.toNat default).v (k.getD x.b.toNat default).v⟩
 else out
def xH (a b:vZ):vZ:=if a.is_&&!decide (a=b) then kno else a
def iN (a b:vZ):Bool:=a.is_&&!decide (a=b)
def jK:KV→KV→KV
 | a::l,b::k=>xH a b::jK l k
 | l,_=>l
def xK:KV→KV→Bool
 | a::l,b::k=>iN a b||xK l k
 | _,_=>false
def yJ (l:List Ins) (at_:Nat):List Int :=
 let x:Ins:=l.getD at_ default
 if x.op=13 then [] else if x.op=11 then [x.n]
 else if x.op=12 then (if x.n<(at_:Int)+1 then [x.n,(at_:Int)+1] else if (at_:Int)+1<x.n then [(at_:Int)+1,x.n] else [(at_:Int)+1])
 else [(at_:Int)+1]
def WfV (k:KV):Prop:=k.length=4∧∀a∈k,a.is_=false→a=kno
def kle (a b:vZ):Prop:=b=kno∨a=b
def vle (a b:KV):Prop:=a.length=b.length∧∀i,i<a.length→kle (a.getD i default) (b.getD i default)
theorem oU (a:vZ):kle a a:=.inr rfl
theorem qSi {a b c:vZ} (h:kle a b) (k:kle b c):kle a c:=by
 rcases k with rfl | rfl
 ·exact .inl rfl
 ·exact h
theorem qUo {a b:vZ} (h:kle a b) (k:kle b a):a=b:=by
 rcases h with rfl | rfl
 ·rcases k with rfl | h
  ·rfl
  ·exact h.symm
 ·rfl
theorem qE2 (a:KV):vle a a:=⟨rfl,fun _ _=>oU _⟩
theorem pQ {a b c:KV} (h:vle a b) (k:vle b c):vle a c:=⟨h.1.trans k.1,fun i hi=>qSi (h.2 i hi) (k.2 i (h.1▸hi))⟩
theorem qTi {a b:KV} (h:vle a b) (k:vle b a):a=b:=by
 apply wB5 h.1
 intro i h1 h2
 have e:=qUo (h.2 i h1) (k.2 i h2)
 simpa [qZc,h1,h2] using e
theorem uO {α:Type} (l:List α) (i j:Nat) (a d:α) (hi:i<l.length):(l.set i a).getD j d=if j=i then a else l.getD j d:=by
 by_cases h:j=i
 ·subst h
  simp [qZc,hi]
 ·rw [if_neg h]
  simp [qZc,List.getElem?_set,show¬i=j from fun e=>h e.symm]
theorem qYa {k:KV} (h:WfV k) (i:Nat) (hk:(k.getD i default).is_=false):k.getD i default=kno:=by
 by_cases hi:i<k.length
 ·exact h.2 _ (yL k i default hi) hk
 ·rw [qZc,List.getElem?_eq_none (by omega)]
  rfl
theorem qO0 {k:KV} (h:WfV k) (i:Nat) {a:vZ} (ha:a.is_=false→a=kno):WfV (k.set i a):=by
 refine ⟨by rw [wAr]; exact h.1,fun b hb=>?_⟩
 rcases List.mem_or_eq_of_mem_set hb with hb | rfl
 ·exact h.2 b hb
 ·exact ha
theorem qQ0:WfV [⟨true,0⟩,⟨true,0⟩,⟨true,0⟩,⟨true,0⟩]:=⟨rfl,fun a ha h=>by
 simp at ha
 subst ha
 simp at h⟩
structure tF (x:Ins):Prop where
 r:0≤x.r∧x.r.toNat<4
 a:0≤x.a∧x.a.toNat<4
 b:0≤x.b∧x.b.toNat<4
theorem qWf {x:Ins} {pl ch:Int} (h:jF x pl ch=true):tF x:=by
 unfold jF at h
 simp only [qZa,qK] at h
 obtain ⟨⟨⟨⟨h1,h2⟩,h3⟩,_⟩,_⟩:=h
 exact ⟨by omega,by omega,by omega⟩
theorem sC {k:KV} (h:WfV k) :∀(s:List Int) (o:KV),WfV o→WfV (s.foldl (fun o r=>o.set r.toNat kno) o)
 | [],o,ho=>ho
 | r::s,o,ho=>sC h s _ (qO0 ho _ fun _=>rfl)
theorem lR (x:Ins) {k:KV} (h:WfV k):WfV (bQ x k):=by
 have hf:=sC h (vP x) k h
 unfold bQ
 simp only
 split
 ·exact qO0 hf _ (by simp)
 ·split
  ·exact qO0 hf _ (by simp)
  ·exact hf
theorem qJk {a b:KV} (h:vle a b) (i:Nat) {c d:vZ} (hc:kle c d):vle (a.set i c) (b.set i d):=by
 refine ⟨by simp [h.1],fun j hj=>?_⟩
 rw [wAr] at hj
 by_cases hi:i<a.length
 ·rw [uO _ _ _ _ _ hi,uO _ _ _ _ _ (h.1▸hi)]
  split
  ·exact hc
  ·exact h.2 j hj
 ·rw [wB6 (by omega),wB6 (by have:=h.1; omega)]
  exact h.2 j hj
theorem qLb :∀(s:List Int) {a b:KV},vle a b→vle (s.foldl (fun o r=>o.set r.toNat kno) a) (s.foldl (fun o r=>o.set r.toNat kno) b)
 | [],_,_,h=>h
 | r::s,_,_,h=>qLb s (qJk h _ (oU _))
theorem qQj :∀(s:List Int) (r:Int) (k:KV),r∈s→r.toNat<k.length→(s.foldl (fun o r=>o.set r.toNat kno) k).getD r.toNat default=kno
 | [],r,k,h,_=>by simp at h
 | q::s,r,k,h,hr=>by
  simp only [wB7]
  by_cases hs:r∈s
  ·exact qQj s r _ hs (by simpa using hr)
  ·have e:r=q:=by
    rcases List.mem_cons.1 h with h | h
    ·exact h
    ·exact absurd h hs
   subst e
   have hne :∀(t:List Int) (o:KV),o.getD r.toNat default=kno→r.toNat<o.length→(t.foldl (fun o r=>o.set r.toNat kno) o).getD r.toNat default=kno:=by
    intro t
    induction t with
    | nil=>intro o ho _; exact ho
    | cons p t ih =>
     intro o ho hl
     refine ih _ ?_ (by simpa using hl)
     by_cases hp:p.toNat<o.length
     ·rw [uO _ _ _ _ _ hp]
      split
      ·rfl
      ·exact ho
     ·have e:(fun (o:KV) (r:Int)=>o.set r.toNat kno) o p=o:=wB6 (by omega)
      rw [e]
      exact ho
   exact hne s _ (by rw [uO _ _ _ _ _ hr,if_pos rfl]) (by simpa using hr)
theorem qNo {x:Ins} (hx:tF x) {a b:KV} (ha:WfV a) (hb:WfV b) (h:vle a b):vle (bQ x a) (bQ x b):=by
 have hs:=qLb (vP x) h
 unfold bQ
 simp only
 split
 ·exact qJk hs _ (oU _)
 ·have la:=h.2 x.a.toNat (by rw [ha.1]; exact hx.a.2)
  have lb:=h.2 x.b.toNat (by rw [ha.1]; exact hx.b.2)
  by_cases hk:aO x.op&&(b.getD x.a.toNat default).is_&&(b.getD x.b.toNat default).is_
  ·have hk':=hk
   simp only [qZa] at hk'
   have ea:a.getD x.a.toNat default=b.getD x.a.toNat default:=by
    rcases la with e | e
    ·rw [e] at hk'; simp [kno] at hk'
    ·exact e
   have eb:a.getD x.b.toNat default=b.getD x.b.toNat default:=by
    rcases lb with e | e
    ·rw [e] at hk'; simp [kno] at hk'
    ·exact e
   rw [ea,eb,if_pos hk,if_pos hk]
   exact qJk hs _ (oU _)
  ·rw [if_neg hk]
   split
   ·rename_i ht
    simp only [qZa] at ht
    have h3:x.r∈vP x:=by
     have:=ht.1.1
     unfold aO at this
     simp at this
     unfold vP
     rw [if_pos (by omega)]
     simp
    have hz:=qQj (vP x) x.r b h3 (by rw [hb.1]; exact hx.r.2)
    have hlen :∀(s:List Int) (o:KV),(s.foldl (fun o r=>o.set r.toNat kno) o).length=o.length:=by
     intro s
     induction s with
     | nil=>intro o; rfl
     | cons p s ih=>intro o; simp only [wB7]; rw [ih]; simp
    refine ⟨by simp [hlen,h.1],fun j hj=>?_⟩
    rw [wAr] at hj
    have hj0:x.r.toNat<((vP x).foldl (fun o r=>o.set r.toNat kno) a).length:=by rw [hlen,ha.1]; exact hx.r.2
    rw [uO _ _ _ _ _ hj0]
    split
    ·rename_i e
     rw [e,hz]
     exact .inl rfl
    ·exact hs.2 j hj
   ·exact hs
theorem uZ :∀(a b:KV),(jK a b).length=a.length
 | [],_=>by simp [jK]
 | _::_,[]=>by simp [jK]
 | a::l,b::k=>by simp [jK,uZ l k]
theorem qA9 :∀(a b:KV) (i:Nat),i<a.length→i<b.length→(jK a b).getD i default=xH (a.getD i default) (b.getD i default)
 | [],_,i,h,_=>by simp at h
 | _::_,[],i,_,h=>by simp at h
 | a::l,b::k,0,_,_=>by simp [jK]
 | a::l,b::k,i+1,h,g=>by
  simp only [jK,wB8]
  exact qA9 l k i (by simpa using h) (by simpa using g)
theorem qA8 {a:KV} (b:KV) (ha:WfV a):WfV (jK a b):=by
 refine ⟨by rw [uZ]; exact ha.1,?_⟩
 have :∀(a b:KV),(∀x∈a,x.is_=false→x=kno)→∀x∈jK a b,x.is_=false→x=kno:=by
  intro a
  induction a with
  | nil=>intro b _ x hx; simp [jK] at hx
  | cons c l ih =>
   intro b h
   cases b with
   | nil=>simpa [jK] using h
   | cons d k =>
    intro x hx hf
    simp only [jK] at hx
    rcases List.mem_cons.1 hx with rfl | hx
    ·unfold xH at hf⊢
     split
     ·rfl
     ·rename_i hc
      rw [if_neg hc] at hf
      exact h c (by simp) hf
    ·exact ih k (fun y hy=>h y (by simp [hy])) x hx hf
 exact this a b ha.2
theorem qUd {a b:KV} (ha:WfV a) (hb:WfV b):vle a (jK a b):=by
 refine ⟨(uZ a b).symm,fun i hi=>?_⟩
 rw [qA9 a b i hi (by rw [hb.1,←ha.1]; exact hi)]
 unfold xH
 split
 ·exact .inl rfl
 ·exact oU _
theorem qUc {a b:KV} (ha:WfV a) (hb:WfV b):vle b (jK a b):=by
 refine ⟨by rw [uZ,ha.1,hb.1],fun i hi=>?_⟩
 have hia:i<a.length:=by rw [ha.1,←hb.1]; exact hi
 rw [qA9 a b i hia hi]
 unfold xH
 split
 ·exact .inl rfl
 ·rename_i hc
  cases hk:(a.getD i default).is_ with
  | false=>rw [qYa ha i hk]; exact .inl rfl
  | true =>
   rw [hk] at hc
   simp only [Bool.true_and,Bool.not_eq_true',decide_eq_false_iff_not,Decidable.not_not] at hc
   exact .inr hc.symm
theorem qOl {a b c:KV} (ha:vle a c) (hb:vle b c):vle (jK a b) c:=by
 refine ⟨by rw [uZ]; exact ha.1,fun i hi=>?_⟩
 rw [uZ] at hi
 have hib:i<b.length:=by rw [hb.1,←ha.1]; exact hi
 rw [qA9 a b i hi hib]
 unfold xH
 split
 ·rename_i hc
  simp only [qZa,Bool.not_eq_true',decide_eq_false_iff_not] at hc
  rcases ha.2 i hi with e | e
  ·exact .inl e
  ·rcases hb.2 i hib with e' | e'
   ·exact .inl e'
   ·exact absurd (e.trans e'.symm) hc.2
 ·exact ha.2 i hi
theorem qFb :∀{a b:KV},xK a b=false→jK a b=a
 | [],_,_=>by simp [jK]
 | _::_,[],_=>by simp [jK]
 | a::l,b::k,h=>by
  simp only [xK,Bool.or_eq_false_iff] at h
  simp only [jK,qFb h.2]
  unfold xH
  have:=h.1
  unfold iN at this
  rw [if_neg (by rw [this]; simp)]
def cnt:KV→Nat
 | []=>0
 | a::l=>(if a.is_ then 1 else 0)+cnt l
theorem qVm :∀(a:KV),cnt a≤a.length
 | []=>by simp [cnt]
 | a::l=>by
  have:=qVm l
  simp only [cnt,List.length_cons]
  split<;>omega
theorem qM5 :∀(a b:KV),cnt (jK a b)≤cnt a∧(xK a b=true→cnt (jK a b)<cnt a)
 | [],_=>by simp [jK,xK,cnt]
 | _::_,[]=>by simp [jK,xK]
 | a::l,b::k=>by
  have ih:=qM5 l k
  have h1:(if (xH a b).is_ then 1 else 0)≤(if a.is_ then 1 else 0:Nat):=by
   unfold xH
   split
   ·simp [kno]
   ·exact Nat.le_refl _
  simp only [jK,xK,cnt]
  refine ⟨by have:=ih.1; omega,fun h=>?_⟩
  rw [qZl] at h
  rcases h with h | h
  ·have h2:(if (xH a b).is_ then 1 else 0)<(if a.is_ then 1 else 0:Nat):=by
    unfold iN at h
    unfold xH
    rw [if_pos h]
    simp only [qZa] at h
    simp [kno,h.1]
   have:=ih.1
   omega
  ·have:=ih.2 h
   omega
def qCq:KV:=[⟨true,0⟩,⟨true,0⟩,⟨true,0⟩,⟨true,0⟩]
def bl (a b:KV):Prop:=a=[]∨(b≠[]∧vle a b)
theorem qX2 (a:KV):bl a a:=by
 by_cases h:a=[]
 ·exact .inl h
 ·exact .inr ⟨h,qE2 a⟩
theorem qX3 {a b:KV} (h:bl a b) (k:bl b a):a=b:=by
 rcases h with rfl | ⟨h1,h2⟩
 ·rcases k with rfl | ⟨k1,_⟩
  ·rfl
  ·exact absurd rfl k1
 ·rcases k with rfl | ⟨_,k2⟩
  ·exact absurd rfl h1
  ·exact qTi h2 k2
abbrev kat (S:KS) (i:Nat):KV:=S.getD i []
def EOk (l:List Ins) (S:KS) (a:Nat):Prop:=kat S a≠[]→∀n∈yJ l a,kat S n.toNat≠[]∧vle (bQ (l.getD a default) (kat S a)) (kat S n.toNat)
structure qR8 (l:List Ins) (T:KS):Prop where
 len:T.length=l.length
 wf :∀i,kat T i=[]∨WfV (kat T i)
 init:kat T 0≠[]∧vle qCq (kat T 0)
 edge :∀a,a<l.length→EOk l T a
structure qB2 (l:List Ins) (S:KS):Prop where
 len:S.length=l.length
 wf :∀i,kat S i=[]∨WfV (kat S i)
 init:kat S 0≠[]∧vle qCq (kat S 0)
 least :∀T,qR8 l T→∀i,bl (kat S i) (kat T i)
structure sI (l:List Ins) (S:KS):Prop where
 inv:qB2 l S
 edge :∀a,a<l.length→EOk l S a
theorem sI.post {l:List Ins} {S:KS} (h:sI l S):qR8 l S:=⟨h.inv.len,h.inv.wf,h.inv.init,h.edge⟩
theorem qF9 {l:List Ins} {S T:KS} (h:sI l S) (k:sI l T):S=T:=by
 apply wB5 (h.inv.len.trans k.inv.len.symm)
 intro i h1 h2
 have e:=qX3 (h.inv.least T k.post i) (k.inv.least S h.post i)
 simpa [kat,qZc,h1,h2] using e
def upd (S:KS) (out:KV) (n:Nat):KS:=S.set n (if kat S n=[] then out else jK (kat S n) out)
def nJ (S:KS) (out:KV) (n:Nat):Bool:=decide (kat S n=[])||xK (kat S n) out
theorem qE5 (S:KS) (out:KV) (n i:Nat) (h:n<S.length):kat (upd S out n) i=if i=n then (if kat S n=[] then out else jK (kat S n) out) else kat S i:=uO _ _ _ _ _ h
theorem qO2 (S:KS) (out:KV) (n:Nat):(upd S out n).length=S.length:=wAr
theorem qCb {a:KV} (h:WfV a):a≠[]:=fun e=>by have:=h.1; rw [e] at this; simp at this
theorem qTl {S:KS} {out:KV} {n:Nat} (hn:n<S.length) (hw:kat S n=[]∨WfV (kat S n)) (ho:WfV out) (i:Nat):bl (kat S i) (kat (upd S out n) i):=by
 rw [qE5 S out n i hn]
 split
 ·rename_i e
  subst e
  split
  ·rename_i h; exact .inl h
  ·rename_i h
   have hw':WfV (kat S i):=hw.resolve_left h
   exact .inr ⟨qCb (qA8 _ hw'),qUd hw' ho⟩
 ·exact qX2 _
theorem tL {S:KS} {out:KV} {n:Nat} (hn:n<S.length) (hw:kat S n=[]∨WfV (kat S n)) (ho:WfV out):kat (upd S out n) n≠[]∧vle out (kat (upd S out n) n):=by
 rw [qE5 S out n n hn,if_pos rfl]
 split
 ·exact ⟨qCb ho,qE2 _⟩
 ·rename_i h
  have hw':WfV (kat S n):=hw.resolve_left h
  exact ⟨qCb (qA8 _ hw'),qUc hw' ho⟩
theorem qE3 {S:KS} {out:KV} {n:Nat} (h:nJ S out n=false):upd S out n=S:=by
 unfold nJ at h
 simp only [Bool.or_eq_false_iff,decide_eq_false_iff_not] at h
 unfold upd
 rw [if_neg h.1,qFb h.2]
 by_cases hn:n<S.length
 ·apply wB5 (by simp)
  intro i h1 h2
  rw [List.getElem_set]
  split
  ·rename_i e
   subst e
   simp [kat,qZc,hn]
  ·rfl
 ·exact wB6 (by omega)
def wS (v:KV):Nat:=if v=[] then 5 else cnt v
def mS (S:KS):Nat:=nR wS S
theorem qE8 {α:Type} (w:α→Nat) (d:α) :∀(l:List α) (i:Nat) (a:α),i<l.length→nR w (l.set i a)+w (l.getD i d)=nR w l+w a
 | [],i,a,h=>by simp at h
 | x::l,0,a,h=>by simp [nR]; omega
 | x::l,i+1,a,h=>by
  have:=qE8 w d l i a (by simpa using h)
  simp only [List.set_cons_succ,nR,wB8]
  omega
theorem qE4 {S:KS} {out:KV} {n:Nat} (hn:n<S.length) (hw:kat S n=[]∨WfV (kat S n)) (ho:WfV out):mS (upd S out n)≤mS S∧(nJ S out n=true→mS (upd S out n)<mS S):=by
 have ht:=qE8 wS [] S n (if kat S n=[] then out else jK (kat S n) out) hn
 have e:nR wS (upd S out n)=mS (upd S out n):=rfl
 have hk:S.getD n []=kat S n:=rfl
 unfold upd at e⊢
 unfold nJ mS at *
 rw [hk] at ht
 by_cases h:kat S n=[]
 ·rw [if_pos h] at ht⊢
  have h1:wS (kat S n)=5:=by unfold wS; rw [if_pos h]
  have h2:wS out≤4:=by unfold wS; rw [if_neg (qCb ho)]; have:=qVm out; rw [ho.1] at this; exact this
  exact ⟨by omega,fun _=>by omega⟩
 ·rw [if_neg h] at ht⊢
  have hw':WfV (kat S n):=hw.resolve_left h
  have h1:wS (kat S n)=cnt (kat S n):=by unfold wS; rw [if_neg h]
  have h2:wS (jK (kat S n) out)=cnt (jK (kat S n) out):=by unfold wS; rw [if_neg (qCb (qA8 _ hw'))]
  have hm:=qM5 (kat S n) out
  refine ⟨by have:=hm.1; omega,fun hd=>?_⟩
  rw [qZl] at hd
  rcases hd with hd | hd
  ·exact absurd (by simpa using hd) h
  ·have:=hm.2 hd
   omega
theorem qJm {l:List Ins} {S:KS} {out:KV} {n:Nat} (h:qB2 l S) (hn:n<l.length) (ho:WfV out) (hl :∀T,qR8 l T→kat T n≠[]∧vle out (kat T n)):qB2 l (upd S out n):=by
 have hn':n<S.length:=by rw [h.len]; exact hn
 refine ⟨by rw [qO2]; exact h.len,fun i=>?_,?_,fun T hT i=>?_⟩
 ·rw [qE5 S out n i hn']
  split
  ·split
   ·exact .inr ho
   ·rename_i e
    exact .inr (qA8 _ ((h.wf n).resolve_left e))
  ·exact h.wf i
 ·have hb:=qTl hn' (h.wf n) ho 0
  rcases hb with hb | hb
  ·exact absurd hb h.init.1
  ·exact ⟨hb.1,pQ h.init.2 hb.2⟩
 ·rw [qE5 S out n i hn']
  split
  ·rename_i e
   subst e
   have hT':=hl T hT
   split
   ·exact .inr hT'
   ·rename_i e
    have hb:=h.least T hT i
    rcases hb with hb | hb
    ·exact absurd hb e
    ·exact .inr ⟨hb.1,qOl hb.2 hT'.2⟩
  ·exact h.least T hT i
theorem qOb {l:List Ins} {S:KS} {a:Nat} (h:qB2 l S) (ha:a<l.length) (hx:tF (l.getD a default)) (hs:kat S a≠[]) (T:KS) (hT:qR8 l T) (n:Int) (hn:n∈yJ l a):kat T n.toNat≠[]∧vle (bQ (l.getD a default) (kat S a)) (kat T n.toNat):=by
 have hb:=h.least T hT a
 rcases hb with hb | hb
 ·exact absurd hb hs
 ·have he:=hT.edge a ha hb.1 n hn
  exact ⟨he.1,pQ (qNo hx ((h.wf a).resolve_left hs) ((hT.wf a).resolve_left hb.1) hb.2) he.2⟩
theorem qV6 {l:List Ins} {S S':KS} {a:Nat} (hle :∀i,bl (kat S i) (kat S' i)) (ha:kat S' a=kat S a) (h:EOk l S a):EOk l S' a:=by
 intro hs n hn
 rw [ha] at hs⊢
 obtain ⟨h1,h2⟩:=h hs n hn
 rcases hle n.toNat with e | e
 ·exact absurd e h1
 ·exact ⟨e.1,pQ h2 e.2⟩
theorem pZ {l:List Ins} (h:wT l 3=true) {a:Nat} (ha:a<l.length) :∀n∈yJ l a,0≤n∧n.toNat<l.length:=by
 unfold wT at h
 simp only [qZa,wB4,qZl,decide_eq_true_eq] at h
 obtain ⟨⟨⟨_,hl⟩,hall⟩,hlast⟩:=h
 have hx:=hall _ (yL l a default ha)
 have hnl:(l.getD a default).op≠13→(l.getD a default).op≠11→a+1<l.length:=fun h1 h2=>by
  apply Nat.lt_of_le_of_ne ha
  intro e
  have:l.length-1=a:=by omega
  unfold zU at hlast
  rw [this] at hlast
  rcases hlast with h3 | h3
  ·exact h1 h3
  ·exact h2 h3
 have hj:((l.getD a default).op=11∨(l.getD a default).op=12)→0≤(l.getD a default).n∧(l.getD a default).n<l.length:=fun ho=>by
  unfold jF at hx
  rcases ho with ho | ho
  ·simp only [ho,qZa] at hx
   simp [-qZc] at hx
   omega
  ·simp only [ho,qZa] at hx
   simp [-qZc] at hx
   omega
 intro n hn
 unfold yJ at hn
 simp only at hn
 generalize (l.getD a default)=x at *
 split at hn
 ·simp at hn
 ·rename_i h13
  split at hn
  ·rename_i h11
   have:=hj (.inl h11)
   simp at hn
   omega
  ·rename_i h11
   have hn1:=hnl h13 h11
   split at hn
   ·rename_i h12
    have:=hj (.inr h12)
    split at hn
    ·simp at hn
     omega
    ·split at hn
     ·simp at hn
      omega
     ·simp at hn
      omega
   ·simp at hn
    omega
theorem lL {l:List Ins} (h:wT l 3=true) {a:Nat} (ha:a<l.length):tF (l.getD a default):=by
 unfold wT at h
 simp only [qZa,wB4] at h
 exact qWf (h.1.2 _ (yL l a default ha))
theorem lM {l:List Ins} {ch:Int} (h:wT l ch=true):1≤l.length∧l.length≤24:=by
 unfold wT at h
 simp only [qZa,qK] at h
 omega
def aD (n:Nat):KS:=(qZ4 n []).set 0 qCq
theorem lE (n i:Nat) (h:0<n):kat (aD n) i=if i=0 then qCq else []:=by
 unfold aD kat
 rw [uO _ _ _ _ _ (by simpa using h)]
 split
 ·rfl
 ·simp [qZc,List.getElem?_replicate]
  split<;>rfl
theorem sV {l:List Ins} (h:0<l.length):qB2 l (aD l.length):=by
 refine ⟨by simp [aD],fun i=>?_,?_,fun T hT i=>?_⟩
 ·rw [lE _ _ h]
  split
  ·exact .inr qQ0
  ·exact .inl rfl
 ·rw [lE _ _ h,if_pos rfl]
  exact ⟨qCb qQ0,qE2 _⟩
 ·rw [lE _ _ h]
  split
  ·rename_i e
   subst e
   exact .inr hT.init
  ·exact .inl rfl
theorem qUj {l:List Ins} (hb:wT l 3=true) :∀(m:Nat) (S:KS),qB2 l S→mS S=m→∃K,sI l K:=by
 intro m
 induction m using Nat.strongRecOn with
 | ind m ih =>
  intro S hS hm
  by_cases he :∀a,a<l.length→EOk l S a
  ·exact ⟨S,hS,he⟩
  ·have ⟨a,ha⟩:=Classical.not_forall.1 he
   have ⟨ha1,ha2⟩:=Classical.not_imp.1 ha
   unfold EOk at ha2
   have ⟨hs,h3⟩:=Classical.not_imp.1 ha2
   have ⟨n,h4⟩:=Classical.not_forall.1 h3
   have ⟨hn,h5⟩:=Classical.not_imp.1 h4
   have hni:=(pZ hb ha1 n hn).2
   have hwo:=lR (l.getD a default) ((hS.wf a).resolve_left hs)
   have hni':n.toNat<S.length:=by rw [hS.len]; exact hni
   have hd:nJ S (bQ (l.getD a default) (kat S a)) n.toNat=true:=by
    cases h6:nJ S (bQ (l.getD a default) (kat S a)) n.toNat with
    | true=>rfl
    | false =>
     have e:=qE3 h6
     have hnew:=tL hni' (hS.wf n.toNat) hwo
     rw [e] at hnew
     exact absurd hnew h5
   have hmm:=(qE4 hni' (hS.wf n.toNat) hwo).2 hd
   exact ih _ (by omega) _ (qJm hS hni hwo fun T hT=>qOb hS ha1 (lL hb ha1) hs T hT n hn) rfl
theorem qFa {l:List Ins} (hb:wT l 3=true) :∃K,sI l K:=qUj hb _ _ (sV (lM hb).1) rfl
def uY (S:KS):KS:=S.map fun v=>if v=[] then qZ4 4 kno else v
def xW (l:List Ins) (K:KS):KS:=if wT l 3 then uY K else []
end Go.Sep
