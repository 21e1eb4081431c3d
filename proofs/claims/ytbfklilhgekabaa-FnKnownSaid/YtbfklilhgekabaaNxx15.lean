/- Contracts of functions. -/
import Derived.Test.YtbfklilhgekabaaNxx6
import Derived.Test.YtbfklilhgekabaaNxx7
open Bool renaming and_eq_true → qX9, or_eq_true → qXk
open List renaming all_eq_true → qZ1, ext_getElem → qZ2, foldl_cons → qZ4, getD_cons_succ → qZ5, getD_eq_getElem?_getD → qXb, length_set → qYq, map_cons → qX6, mem_map → qYp, replicate → qX3, set_eq_of_length_le → qZ3
namespace Go.Sep
set_option maxHeartbeats 16000000
open Go.Proofs
set_option linter.unusedSimpArgs false
set_option linter.unusedVariables false
set_option maxRecDepth 100000
structure uQ where
 is_:Bool
 v:Int
 deriving DecidableEq,Inhabited
def lG (x:uQ):List AV:=[.bool x.is_,.int .i64 x.v]
def wK (l:List uQ):List (List AV):=l.map lG
theorem qMy:wK []=[]:=rfl
theorem iF (l:List uQ):(wK l).length=l.length:=by simp [wK]
theorem qFs (l k:List uQ):wK l++wK k=wK (l++k):=by simp [wK]
theorem qBg (l:List uQ) (n:Nat):(wK l).drop n=wK (l.drop n):=by simp [wK]
theorem qBf (l:List uQ) (n:Nat):(wK l).take n=wK (l.take n):=by simp [wK]
theorem vZ (l:List uQ) (i:Nat) (is__:Bool) (v_:Int):(wK l).set i [.bool is__,.int .i64 v_]=wK (l.set i ⟨is__,v_⟩):=by simp [wK,lG]
theorem jA (l:List uQ) (i:Nat) (h:i<l.length):(wK l).getD i []=[.bool (l.getD i default).is_,.int .i64 (l.getD i default).v]:=by simp [wK,lG,List.getD_eq_getElem?_getD,h]
theorem cZ (A:Nat→Prop) (l:List uQ):yL A (wK l)↔True:=by
 simp only [iff_true]
 induction l with
 | nil=>trivial
 | cons x l ih=>exact ⟨by simp [lG,yQ,bnd,zL,jB,uB,jR,vR,uF,uS,vE,gC,gT,uY,eI],ih⟩
theorem oN (l:List uQ):nbr (wK l)↔True:=by
 simp only [iff_true]
 induction l with
 | nil=>trivial
 | cons x l ih=>exact ⟨by simp [lG,nbs,nb,uA,bS,vI,bB,bP,bA,vX,dM,dV,gH,iI],ih⟩
theorem kB :∀(l:List uQ),bwR (wK l)=wK l
 | []=>rfl
 | x::l=>by
  have:=kB l
  simp only [wK,qX6,bwR] at this⊢
  rw [this]
  simp [lG,bwL,bwC,uN,bH,jY,uO,bD,bN,vN,gW,dP,bL,fG]
theorem qKt (l:List uQ):free (wK l)↔True:=by
 simp only [iff_true]
 intro r hr c hc
 simp only [wK,qYp] at hr
 obtain ⟨x,_,rfl⟩:=hr
 simp [lG] at hc
 rcases hc with rfl | rfl<;>rfl
def qY (m:Mode) (l:List (List uQ)):List (List AV):=l.map fun b=>[.sl m 2 (wK b)]
theorem qKs (m:Mode):qY m []=[]:=rfl
theorem yP (m:Mode) (l:List (List uQ)):(qY m l).length=l.length:=by simp [qY]
theorem nF (m:Mode) (l k:List (List uQ)):qY m l++qY m k=qY m (l++k):=by simp [qY]
theorem qKr (m:Mode) (b_:List uQ):[[.sl m 2 (wK b_)]]=qY m [b_]:=rfl
theorem sR (m:Mode) (l:List (List uQ)) (n:Nat):(qY m l).drop n=qY m (l.drop n):=by simp [qY]
theorem sQ (m:Mode) (l:List (List uQ)) (n:Nat):(qY m l).take n=qY m (l.take n):=by simp [qY]
theorem gZ (m:Mode) (l:List (List uQ)) (i:Nat) (b_:List uQ):(qY m l).set i [.sl m 2 (wK b_)]=qY m (l.set i b_):=by simp [qY]
theorem vM (m:Mode) (l:List (List uQ)) (i:Nat) (h:i<l.length):(qY m l).getD i []=[.sl m 2 (wK (l.getD i []))]:=by simp [qY,List.getD_eq_getElem?_getD,h]
theorem nE (A:Nat→Prop) (m:Mode) (l:List (List uQ)):yL A (qY m l)↔True:=by
 simp only [iff_true]
 induction l with
 | nil=>trivial
 | cons x l ih=>exact ⟨by simp [yQ,bnd,zL,jB,uB,jR,vR,uF,uS,vE,gC,gT,uY,eI,cZ],ih⟩
theorem rA (l:List (List uQ)):nbr (qY .own l)↔True:=by
 simp only [iff_true]
 induction l with
 | nil=>trivial
 | cons x l ih=>exact ⟨by simp [nbs,nb,uA,bS,vI,bB,bP,bA,vX,dM,dV,gH,iI,oN],ih⟩
theorem lF (m:Mode) :∀(l:List (List uQ)),bwR (qY m l)=qY .bw l
 | []=>rfl
 | x::l=>by
  have:=lF m l
  simp only [qY,qX6,bwR] at this⊢
  rw [this]
  simp [bwL,bwC,uN,bH,jY,uO,bD,bN,vN,gW,dP,bL,fG,kB]
theorem qIn (l:List (List uQ)):free (qY .bw l)↔True:=by
 simp only [iff_true]
 intro r hr c hc
 simp only [qY,qYp] at hr
 obtain ⟨x,_,rfl⟩:=hr
 simp [] at hc
 rcases hc with rfl<;>rfl
def bR (m:Mode) (l:List (List gM)):List (List AV):=l.map fun b=>[.sl m 2 (jK b)]
theorem qMj (m:Mode):bR m []=[]:=rfl
theorem iD (m:Mode) (l:List (List gM)):(bR m l).length=l.length:=by simp [bR]
theorem qFq (m:Mode) (l k:List (List gM)):bR m l++bR m k=bR m (l++k):=by simp [bR]
theorem qBa (m:Mode) (l:List (List gM)) (n:Nat):(bR m l).drop n=bR m (l.drop n):=by simp [bR]
theorem qB9 (m:Mode) (l:List (List gM)) (n:Nat):(bR m l).take n=bR m (l.take n):=by simp [bR]
theorem qMi (m:Mode) (l:List (List gM)) (i:Nat) (b_:List gM):(bR m l).set i [.sl m 2 (jK b_)]=bR m (l.set i b_):=by simp [bR]
theorem qDl (A:Nat→Prop) (m:Mode) (l:List (List gM)):yL A (bR m l)↔True:=by
 simp only [iff_true]
 induction l with
 | nil=>trivial
 | cons x l ih=>exact ⟨by simp [yQ,bnd,zL,jB,uB,jR,vR,uF,uS,vE,gC,gT,uY,eI,cZ,nE],ih⟩
theorem qGo (l:List (List gM)):nbr (bR .own l)↔True:=by
 simp only [iff_true]
 induction l with
 | nil=>trivial
 | cons x l ih=>exact ⟨by simp [nbs,nb,uA,bS,vI,bB,bP,bA,vX,dM,dV,gH,iI,oN,rA],ih⟩
theorem qAf (m:Mode) :∀(l:List (List gM)),bwR (bR m l)=bR .bw l
 | []=>rfl
 | x::l=>by
  have:=qAf m l
  simp only [bR,qX6,bwR] at this⊢
  rw [this]
  simp [bwL,bwC,uN,bH,jY,uO,bD,bN,vN,gW,dP,bL,fG,kB,lF]
theorem qKc (l:List (List gM)):free (bR .bw l)↔True:=by
 simp only [iff_true]
 intro r hr c hc
 simp only [bR,qYp] at hr
 obtain ⟨x,_,rfl⟩:=hr
 simp [] at hc
 rcases hc with rfl<;>rfl
def jX (l:List Bool):List (List AV):=l.map fun b=>[.bool b]
theorem qNu:jX []=[]:=rfl
theorem iJ (l:List Bool):(jX l).length=l.length:=by simp [jX]
theorem qG4 (l k:List Bool):jX l++jX k=jX (l++k):=by simp [jX]
theorem qBy (l:List Bool) (n:Nat):(jX l).drop n=jX (l.drop n):=by simp [jX]
theorem qBw (l:List Bool) (n:Nat):(jX l).take n=jX (l.take n):=by simp [jX]
theorem qNt (n:Nat) (b_:Bool):List.replicate n [.bool b_]=jX (List.replicate n b_):=by simp [jX]
theorem qEu (l:List Bool) (i:Nat) (b_:Bool):(jX l).set i [.bool b_]=jX (l.set i b_):=by simp [jX]
theorem qBx (l:List Bool) (i:Nat) (h:i<l.length):(jX l).getD i []=[.bool (l.getD i false)]:=by simp [jX,List.getD_eq_getElem?_getD,h]
theorem qNv (A:Nat→Prop) (l:List Bool):yL A (jX l)↔True:=by
 simp only [iff_true]
 induction l with
 | nil=>trivial
 | cons x l ih=>exact ⟨by simp [yQ,bnd,zL,jB,uB,jR,vR,uF,uS,vE,gC,gT,uY,eI,cZ,nE,qDl],ih⟩
theorem qRb (l:List Bool):nbr (jX l)↔True:=by
 simp only [iff_true]
 induction l with
 | nil=>trivial
 | cons x l ih=>exact ⟨by simp [nbs,nb,uA,bS,vI,bB,bP,bA,vX,dM,dV,gH,iI,oN,rA,qGo],ih⟩
theorem qHj :∀(l:List Bool),bwR (jX l)=jX l
 | []=>rfl
 | x::l=>by
  have:=qHj l
  simp only [jX,qX6,bwR] at this⊢
  rw [this]
  simp [bwL,bwC,uN,bH,jY,uO,bD,bN,vN,gW,dP,bL,fG,kB,lF,qAf]
theorem qLn (l:List Bool):free (jX l)↔True:=by
 simp only [iff_true]
 intro r hr c hc
 simp only [jX,qYp] at hr
 obtain ⟨x,_,rfl⟩:=hr
 simp [] at hc
 rcases hc with rfl<;>rfl
theorem fS3:((∀l,(wK l).length=l.length)∧(∀m l,(qY m l).length=l.length)∧(∀m l,(bR m l).length=l.length)∧(∀l,(jX l).length=l.length)):=⟨by intros; simp [iF],by intros; simp [yP],by intros; simp [iD],by intros; simp [iJ]⟩
attribute [go_sem] iF qFs qBg qBf vZ lG yP nF sR sQ gZ iD qFq qBa qB9 qMi iJ qG4 qBy qBw qEu
attribute [simp] qMy kB cZ oN iF qBf qBg qKt qKs lF nE rA yP sQ sR qIn qMj qAf qDl qGo iD qB9 qBa qKc qNu qHj qNv qRb iJ qBw qBy qLn lG
abbrev KV:=List uQ
abbrev KS:=List KV
def kno:uQ:=⟨false,0⟩
def vL (x:Ins):List Int:=if x.op=1∨x.op=2∨x.op=3∨x.op=4∨x.op=7 then [x.r] else if x.op=6∨x.op=8 then [x.r,x.b] else []
def fK (op:Int):Bool:=decide (op=2)||decide (op=3)||decide (op=4)
def bM (x:Ins) (k:KV):KV :=
 let out:=(vL x).foldl (fun o r=>o.set r.toNat kno) k
 if x.op=1 then out.set x.r.toNat ⟨true,x.n⟩
 else if fK x.op&&(k.getD x.a.toNat default).is_&&(k.getD x.b.toNat default).is_ then out.set x.r.toNat ⟨true,uC x.op (k.getD x.a.toNat default).v (k.getD x.b.toNat default).v⟩
 else out
def zY (a b:uQ):uQ:=if a.is_&&!decide (a=b) then kno else a
def fR (a b:uQ):Bool:=a.is_&&!decide (a=b)
def jJ:KV→KV→KV
 | a::l,b::k=>zY a b::jJ l k
 | l,_=>l
def xB:KV→KV→Bool
 | a::l,b::k=>fR a b||xB l k
 | _,_=>false
def yF (l:List Ins) (at_:Nat):List Int :=
 let x:Ins:=l.getD at_ default
 if x.op=13 then [] else if x.op=11 then [x.n]
 else if x.op=12 then (if x.n<(at_:Int)+1 then [x.n,(at_:Int)+1] else if (at_:Int)+1<x.n then [(at_:Int)+1,x.n] else [(at_:Int)+1])
 else [(at_:Int)+1]
def WfV (k:KV):Prop:=k.length=4∧∀a∈k,a.is_=false→a=kno
def kle (a b:uQ):Prop:=b=kno∨a=b
def vle (a b:KV):Prop:=a.length=b.length∧∀i,i<a.length→kle (a.getD i default) (b.getD i default)
theorem nG (a:uQ):kle a a:=.inr rfl
theorem qQm {a b c:uQ} (h:kle a b) (k:kle b c):kle a c:=by
 rcases k with rfl | rfl
 ·exact .inl rfl
 ·exact h
theorem qSq {a b:uQ} (h:kle a b) (k:kle b a):a=b:=by
 rcases h with rfl | rfl
 ·rcases k with rfl | h
  ·rfl
  ·exact h.symm
 ·rfl
theorem qCp (a:KV):vle a a:=⟨rfl,fun _ _=>nG _⟩
theorem oB {a b c:KV} (h:vle a b) (k:vle b c):vle a c:=⟨h.1.trans k.1,fun i hi=>qQm (h.2 i hi) (k.2 i (h.1▸hi))⟩
theorem qRk {a b:KV} (h:vle a b) (k:vle b a):a=b:=by
 apply qZ2 h.1
 intro i h1 h2
 have e:=qSq (h.2 i h1) (k.2 i h2)
 simpa [qXb,h1,h2] using e
theorem bC {α:Type} (l:List α) (i j:Nat) (a d:α) (hi:i<l.length):(l.set i a).getD j d=if j=i then a else l.getD j d:=by
 by_cases h:j=i
 ·subst h
  simp [qXb,hi]
 ·rw [if_neg h]
  simp [qXb,List.getElem?_set,show¬i=j from fun e=>h e.symm]
theorem qW9 {k:KV} (h:WfV k) (i:Nat) (hk:(k.getD i default).is_=false):k.getD i default=kno:=by
 by_cases hi:i<k.length
 ·exact h.2 _ (yR k i default hi) hk
 ·rw [qXb,List.getElem?_eq_none (by omega)]
  rfl
theorem qM4 {k:KV} (h:WfV k) (i:Nat) {a:uQ} (ha:a.is_=false→a=kno):WfV (k.set i a):=by
 refine ⟨by rw [qYq]; exact h.1,fun b hb=>?_⟩
 rcases List.mem_or_eq_of_mem_set hb with hb | rfl
 ·exact h.2 b hb
 ·exact ha
theorem qO4:WfV [⟨true,0⟩,⟨true,0⟩,⟨true,0⟩,⟨true,0⟩]:=⟨rfl,fun a ha h=>by
 simp at ha
 subst ha
 simp at h⟩
structure rH (x:Ins):Prop where
 r:0≤x.r∧x.r.toNat<4
 a:0≤x.a∧x.a.toNat<4
 b:0≤x.b∧x.b.toNat<4
theorem qUh {x:Ins} {pl ch:Int} (h:jL x pl ch=true):rH x:=by
 unfold jL at h
 simp only [qX9,qK] at h
 obtain ⟨⟨⟨⟨h1,h2⟩,h3⟩,_⟩,_⟩:=h
 exact ⟨by omega,by omega,by omega⟩
theorem pI {k:KV} (h:WfV k) :∀(s:List Int) (o:KV),WfV o→WfV (s.foldl (fun o r=>o.set r.toNat kno) o)
 | [],o,ho=>ho
 | r::s,o,ho=>pI h s _ (qM4 ho _ fun _=>rfl)
theorem kM (x:Ins) {k:KV} (h:WfV k):WfV (bM x k):=by
 have hf:=pI h (vL x) k h
 unfold bM
 simp only
 split
 ·exact qM4 hf _ (by simp)
 ·split
  ·exact qM4 hf _ (by simp)
  ·exact hf
theorem qI0 {a b:KV} (h:vle a b) (i:Nat) {c d:uQ} (hc:kle c d):vle (a.set i c) (b.set i d):=by
 refine ⟨by simp [h.1],fun j hj=>?_⟩
 rw [qYq] at hj
 by_cases hi:i<a.length
 ·rw [bC _ _ _ _ _ hi,bC _ _ _ _ _ (h.1▸hi)]
  split
  ·exact hc
  ·exact h.2 j hj
 ·rw [qZ3 (by omega),qZ3 (by have:=h.1; omega)]
  exact h.2 j hj
theorem qJp :∀(s:List Int) {a b:KV},vle a b→vle (s.foldl (fun o r=>o.set r.toNat kno) a) (s.foldl (fun o r=>o.set r.toNat kno) b)
 | [],_,_,h=>h
 | r::s,_,_,h=>qJp s (qI0 h _ (nG _))
theorem qOn :∀(s:List Int) (r:Int) (k:KV),r∈s→r.toNat<k.length→(s.foldl (fun o r=>o.set r.toNat kno) k).getD r.toNat default=kno
 | [],r,k,h,_=>by simp at h
 | q::s,r,k,h,hr=>by
  simp only [qZ4]
  by_cases hs:r∈s
  ·exact qOn s r _ hs (by simpa using hr)
  ·have e:r=q:=by
    rcases List.mem_cons.1 h with h | h
    ·exact h
    ·exact absurd h hs
   subst e
   have hne :∀(t:List Int) (o:KV),o.getD r.toNat default=kno→r.toNat<o.length→(t.foldl (fun o r=>o.set r.toNat kno) o).getD r.toNat default=kno:=by
    intro t
    induction t with
    | nil=>intro o ho _; exact ho
    | cons p t ih =>
     intro o ho hl
     refine ih _ ?_ (by simpa using hl)
     by_cases hp:p.toNat<o.length
     ·rw [bC _ _ _ _ _ hp]
      split
      ·rfl
      ·exact ho
     ·have e:(fun (o:KV) (r:Int)=>o.set r.toNat kno) o p=o:=qZ3 (by omega)
      rw [e]
      exact ho
   exact hne s _ (by rw [bC _ _ _ _ _ hr,if_pos rfl]) (by simpa using hr)
theorem qLs {x:Ins} (hx:rH x) {a b:KV} (ha:WfV a) (hb:WfV b) (h:vle a b):vle (bM x a) (bM x b):=by
 have hs:=qJp (vL x) h
 unfold bM
 simp only
 split
 ·exact qI0 hs _ (nG _)
 ·have la:=h.2 x.a.toNat (by rw [ha.1]; exact hx.a.2)
  have lb:=h.2 x.b.toNat (by rw [ha.1]; exact hx.b.2)
  by_cases hk:fK x.op&&(b.getD x.a.toNat default).is_&&(b.getD x.b.toNat default).is_
  ·have hk':=hk
   simp only [qX9] at hk'
   have ea:a.getD x.a.toNat default=b.getD x.a.toNat default:=by
    rcases la with e | e
    ·rw [e] at hk'; simp [kno] at hk'
    ·exact e
   have eb:a.getD x.b.toNat default=b.getD x.b.toNat default:=by
    rcases lb with e | e
    ·rw [e] at hk'; simp [kno] at hk'
    ·exact e
   rw [ea,eb,if_pos hk,if_pos hk]
   exact qI0 hs _ (nG _)
  ·rw [if_neg hk]
   split
   ·rename_i ht
    simp only [qX9] at ht
    have h3:x.r∈vL x:=by
     have:=ht.1.1
     unfold fK at this
     simp at this
     unfold vL
     rw [if_pos (by omega)]
     simp
    have hz:=qOn (vL x) x.r b h3 (by rw [hb.1]; exact hx.r.2)
    have hlen :∀(s:List Int) (o:KV),(s.foldl (fun o r=>o.set r.toNat kno) o).length=o.length:=by
     intro s
     induction s with
     | nil=>intro o; rfl
     | cons p s ih=>intro o; simp only [qZ4]; rw [ih]; simp
    refine ⟨by simp [hlen,h.1],fun j hj=>?_⟩
    rw [qYq] at hj
    have hj0:x.r.toNat<((vL x).foldl (fun o r=>o.set r.toNat kno) a).length:=by rw [hlen,ha.1]; exact hx.r.2
    rw [bC _ _ _ _ _ hj0]
    split
    ·rename_i e
     rw [e,hz]
     exact .inl rfl
    ·exact hs.2 j hj
   ·exact hs
theorem uV :∀(a b:KV),(jJ a b).length=a.length
 | [],_=>by simp [jJ]
 | _::_,[]=>by simp [jJ]
 | a::l,b::k=>by simp [jJ,uV l k]
theorem sL :∀(a b:KV) (i:Nat),i<a.length→i<b.length→(jJ a b).getD i default=zY (a.getD i default) (b.getD i default)
 | [],_,i,h,_=>by simp at h
 | _::_,[],i,_,h=>by simp at h
 | a::l,b::k,0,_,_=>by simp [jJ]
 | a::l,b::k,i+1,h,g=>by
  simp only [jJ,qZ5]
  exact sL l k i (by simpa using h) (by simpa using g)
theorem sK {a:KV} (b:KV) (ha:WfV a):WfV (jJ a b):=by
 refine ⟨by rw [uV]; exact ha.1,?_⟩
 have :∀(a b:KV),(∀x∈a,x.is_=false→x=kno)→∀x∈jJ a b,x.is_=false→x=kno:=by
  intro a
  induction a with
  | nil=>intro b _ x hx; simp [jJ] at hx
  | cons c l ih =>
   intro b h
   cases b with
   | nil=>simpa [jJ] using h
   | cons d k =>
    intro x hx hf
    simp only [jJ] at hx
    rcases List.mem_cons.1 hx with rfl | hx
    ·unfold zY at hf⊢
     split
     ·rfl
     ·rename_i hc
      rw [if_neg hc] at hf
      exact h c (by simp) hf
    ·exact ih k (fun y hy=>h y (by simp [hy])) x hx hf
 exact this a b ha.2
theorem qSe {a b:KV} (ha:WfV a) (hb:WfV b):vle a (jJ a b):=by
 refine ⟨(uV a b).symm,fun i hi=>?_⟩
 rw [sL a b i hi (by rw [hb.1,←ha.1]; exact hi)]
 unfold zY
 split
 ·exact .inl rfl
 ·exact nG _
theorem qSd {a b:KV} (ha:WfV a) (hb:WfV b):vle b (jJ a b):=by
 refine ⟨by rw [uV,ha.1,hb.1],fun i hi=>?_⟩
 have hia:i<a.length:=by rw [ha.1,←hb.1]; exact hi
 rw [sL a b i hia hi]
 unfold zY
 split
 ·exact .inl rfl
 ·rename_i hc
  cases hk:(a.getD i default).is_ with
  | false=>rw [qW9 ha i hk]; exact .inl rfl
  | true =>
   rw [hk] at hc
   simp only [Bool.true_and,Bool.not_eq_true',decide_eq_false_iff_not,Decidable.not_not] at hc
   exact .inr hc.symm
theorem qMq {a b c:KV} (ha:vle a c) (hb:vle b c):vle (jJ a b) c:=by
 refine ⟨by rw [uV]; exact ha.1,fun i hi=>?_⟩
 rw [uV] at hi
 have hib:i<b.length:=by rw [hb.1,←ha.1]; exact hi
 rw [sL a b i hi hib]
 unfold zY
 split
 ·rename_i hc
  simp only [qX9,Bool.not_eq_true',decide_eq_false_iff_not] at hc
  rcases ha.2 i hi with e | e
  ·exact .inl e
  ·rcases hb.2 i hib with e' | e'
   ·exact .inl e'
   ·exact absurd (e.trans e'.symm) hc.2
 ·exact ha.2 i hi
theorem qDx :∀{a b:KV},xB a b=false→jJ a b=a
 | [],_,_=>by simp [jJ]
 | _::_,[],_=>by simp [jJ]
 | a::l,b::k,h=>by
  simp only [xB,Bool.or_eq_false_iff] at h
  simp only [jJ,qDx h.2]
  unfold zY
  have:=h.1
  unfold fR at this
  rw [if_neg (by rw [this]; simp)]
def cnt:KV→Nat
 | []=>0
 | a::l=>(if a.is_ then 1 else 0)+cnt l
theorem qTm :∀(a:KV),cnt a≤a.length
 | []=>by simp [cnt]
 | a::l=>by
  have:=qTm l
  simp only [cnt,List.length_cons]
  split<;>omega
theorem qKh :∀(a b:KV),cnt (jJ a b)≤cnt a∧(xB a b=true→cnt (jJ a b)<cnt a)
 | [],_=>by simp [jJ,xB,cnt]
 | _::_,[]=>by simp [jJ,xB]
 | a::l,b::k=>by
  have ih:=qKh l k
  have h1:(if (zY a b).is_ then 1 else 0)≤(if a.is_ then 1 else 0:Nat):=by
   unfold zY
   split
   ·simp [kno]
   ·exact Nat.le_refl _
  simp only [jJ,xB,cnt]
  refine ⟨by have:=ih.1; omega,fun h=>?_⟩
  rw [qXk] at h
  rcases h with h | h
  ·have h2:(if (zY a b).is_ then 1 else 0)<(if a.is_ then 1 else 0:Nat):=by
    unfold fR at h
    unfold zY
    rw [if_pos h]
    simp only [qX9] at h
    simp [kno,h.1]
   have:=ih.1
   omega
  ·have:=ih.2 h
   omega
def qBh:KV:=[⟨true,0⟩,⟨true,0⟩,⟨true,0⟩,⟨true,0⟩]
def bl (a b:KV):Prop:=a=[]∨(b≠[]∧vle a b)
theorem qV3 (a:KV):bl a a:=by
 by_cases h:a=[]
 ·exact .inl h
 ·exact .inr ⟨h,qCp a⟩
theorem qV4 {a b:KV} (h:bl a b) (k:bl b a):a=b:=by
 rcases h with rfl | ⟨h1,h2⟩
 ·rcases k with rfl | ⟨k1,_⟩
  ·rfl
  ·exact absurd rfl k1
 ·rcases k with rfl | ⟨_,k2⟩
  ·exact absurd rfl h1
  ·exact qRk h2 k2
abbrev kat (S:KS) (i:Nat):KV:=S.getD i []
def EOk (l:List Ins) (S:KS) (a:Nat):Prop:=kat S a≠[]→∀n∈yF l a,kat S n.toNat≠[]∧vle (bM (l.getD a default) (kat S a)) (kat S n.toNat)
structure qPd (l:List Ins) (T:KS):Prop where
 len:T.length=l.length
 wf :∀i,kat T i=[]∨WfV (kat T i)
 init:kat T 0≠[]∧vle qBh (kat T 0)
 edge :∀a,a<l.length→EOk l T a
structure tR (l:List Ins) (S:KS):Prop where
 len:S.length=l.length
 wf :∀i,kat S i=[]∨WfV (kat S i)
 init:kat S 0≠[]∧vle qBh (kat S 0)
 least :∀T,qPd l T→∀i,bl (kat S i) (kat T i)
structure pP (l:List Ins) (S:KS):Prop where
 inv:tR l S
 edge :∀a,a<l.length→EOk l S a
theorem pP.post {l:List Ins} {S:KS} (h:pP l S):qPd l S:=⟨h.inv.len,h.inv.wf,h.inv.init,h.edge⟩
theorem qDv {l:List Ins} {S T:KS} (h:pP l S) (k:pP l T):S=T:=by
 apply qZ2 (h.inv.len.trans k.inv.len.symm)
 intro i h1 h2
 have e:=qV4 (h.inv.least T k.post i) (k.inv.least S h.post i)
 simpa [kat,qXb,h1,h2] using e
def upd (S:KS) (out:KV) (n:Nat):KS:=S.set n (if kat S n=[] then out else jJ (kat S n) out)
def mA (S:KS) (out:KV) (n:Nat):Bool:=decide (kat S n=[])||xB (kat S n) out
theorem qCs (S:KS) (out:KV) (n i:Nat) (h:n<S.length):kat (upd S out n) i=if i=n then (if kat S n=[] then out else jJ (kat S n) out) else kat S i:=bC _ _ _ _ _ h
theorem qM6 (S:KS) (out:KV) (n:Nat):(upd S out n).length=S.length:=qYq
theorem qB1 {a:KV} (h:WfV a):a≠[]:=fun e=>by have:=h.1; rw [e] at this; simp at this
theorem qRn {S:KS} {out:KV} {n:Nat} (hn:n<S.length) (hw:kat S n=[]∨WfV (kat S n)) (ho:WfV out) (i:Nat):bl (kat S i) (kat (upd S out n) i):=by
 rw [qCs S out n i hn]
 split
 ·rename_i e
  subst e
  split
  ·rename_i h; exact .inl h
  ·rename_i h
   have hw':WfV (kat S i):=hw.resolve_left h
   exact .inr ⟨qB1 (sK _ hw'),qSe hw' ho⟩
 ·exact qV3 _
theorem rN {S:KS} {out:KV} {n:Nat} (hn:n<S.length) (hw:kat S n=[]∨WfV (kat S n)) (ho:WfV out):kat (upd S out n) n≠[]∧vle out (kat (upd S out n) n):=by
 rw [qCs S out n n hn,if_pos rfl]
 split
 ·exact ⟨qB1 ho,qCp _⟩
 ·rename_i h
  have hw':WfV (kat S n):=hw.resolve_left h
  exact ⟨qB1 (sK _ hw'),qSd hw' ho⟩
theorem qCq {S:KS} {out:KV} {n:Nat} (h:mA S out n=false):upd S out n=S:=by
 unfold mA at h
 simp only [Bool.or_eq_false_iff,decide_eq_false_iff_not] at h
 unfold upd
 rw [if_neg h.1,qDx h.2]
 by_cases hn:n<S.length
 ·apply qZ2 (by simp)
  intro i h1 h2
  rw [List.getElem_set]
  split
  ·rename_i e
   subst e
   simp [kat,qXb,hn]
  ·rfl
 ·exact qZ3 (by omega)
def wS (v:KV):Nat:=if v=[] then 5 else cnt v
def mS (S:KS):Nat:=mF wS S
theorem qCv {α:Type} (w:α→Nat) (d:α) :∀(l:List α) (i:Nat) (a:α),i<l.length→mF w (l.set i a)+w (l.getD i d)=mF w l+w a
 | [],i,a,h=>by simp at h
 | x::l,0,a,h=>by simp [mF]; omega
 | x::l,i+1,a,h=>by
  have:=qCv w d l i a (by simpa using h)
  simp only [List.set_cons_succ,mF,qZ5]
  omega
theorem qCr {S:KS} {out:KV} {n:Nat} (hn:n<S.length) (hw:kat S n=[]∨WfV (kat S n)) (ho:WfV out):mS (upd S out n)≤mS S∧(mA S out n=true→mS (upd S out n)<mS S):=by
 have ht:=qCv wS [] S n (if kat S n=[] then out else jJ (kat S n) out) hn
 have e:mF wS (upd S out n)=mS (upd S out n):=rfl
 have hk:S.getD n []=kat S n:=rfl
 unfold upd at e⊢
 unfold mA mS at *
 rw [hk] at ht
 by_cases h:kat S n=[]
 ·rw [if_pos h] at ht⊢
  have h1:wS (kat S n)=5:=by unfold wS; rw [if_pos h]
  have h2:wS out≤4:=by unfold wS; rw [if_neg (qB1 ho)]; have:=qTm out; rw [ho.1] at this; exact this
  exact ⟨by omega,fun _=>by omega⟩
 ·rw [if_neg h] at ht⊢
  have hw':WfV (kat S n):=hw.resolve_left h
  have h1:wS (kat S n)=cnt (kat S n):=by unfold wS; rw [if_neg h]
  have h2:wS (jJ (kat S n) out)=cnt (jJ (kat S n) out):=by unfold wS; rw [if_neg (qB1 (sK _ hw'))]
  have hm:=qKh (kat S n) out
  refine ⟨by have:=hm.1; omega,fun hd=>?_⟩
  rw [qXk] at hd
  rcases hd with hd | hd
  ·exact absurd (by simpa using hd) h
  ·have:=hm.2 hd
   omega
theorem qI2 {l:List Ins} {S:KS} {out:KV} {n:Nat} (h:tR l S) (hn:n<l.length) (ho:WfV out) (hl :∀T,qPd l T→kat T n≠[]∧vle out (kat T n)):tR l (upd S out n):=by
 have hn':n<S.length:=by rw [h.len]; exact hn
 refine ⟨by rw [qM6]; exact h.len,fun i=>?_,?_,fun T hT i=>?_⟩
 ·rw [qCs S out n i hn']
  split
  ·split
   ·exact .inr ho
   ·rename_i e
    exact .inr (sK _ ((h.wf n).resolve_left e))
  ·exact h.wf i
 ·have hb:=qRn hn' (h.wf n) ho 0
  rcases hb with hb | hb
  ·exact absurd hb h.init.1
  ·exact ⟨hb.1,oB h.init.2 hb.2⟩
 ·rw [qCs S out n i hn']
  split
  ·rename_i e
   subst e
   have hT':=hl T hT
   split
   ·exact .inr hT'
   ·rename_i e
    have hb:=h.least T hT i
    rcases hb with hb | hb
    ·exact absurd hb e
    ·exact .inr ⟨hb.1,qMq hb.2 hT'.2⟩
  ·exact h.least T hT i
theorem qMf {l:List Ins} {S:KS} {a:Nat} (h:tR l S) (ha:a<l.length) (hx:rH (l.getD a default)) (hs:kat S a≠[]) (T:KS) (hT:qPd l T) (n:Int) (hn:n∈yF l a):kat T n.toNat≠[]∧vle (bM (l.getD a default) (kat S a)) (kat T n.toNat):=by
 have hb:=h.least T hT a
 rcases hb with hb | hb
 ·exact absurd hb hs
 ·have he:=hT.edge a ha hb.1 n hn
  exact ⟨he.1,oB (qLs hx ((h.wf a).resolve_left hs) ((hT.wf a).resolve_left hb.1) hb.2) he.2⟩
theorem qT5 {l:List Ins} {S S':KS} {a:Nat} (hle :∀i,bl (kat S i) (kat S' i)) (ha:kat S' a=kat S a) (h:EOk l S a):EOk l S' a:=by
 intro hs n hn
 rw [ha] at hs⊢
 obtain ⟨h1,h2⟩:=h hs n hn
 rcases hle n.toNat with e | e
 ·exact absurd e h1
 ·exact ⟨e.1,oB h2 e.2⟩
theorem oI {l:List Ins} (h:wV l 3=true) {a:Nat} (ha:a<l.length) :∀n∈yF l a,0≤n∧n.toNat<l.length:=by
 unfold wV at h
 simp only [qX9,qZ1,qXk,decide_eq_true_eq] at h
 obtain ⟨⟨⟨_,hl⟩,hall⟩,hlast⟩:=h
 have hx:=hall _ (yR l a default ha)
 have hnl:(l.getD a default).op≠13→(l.getD a default).op≠11→a+1<l.length:=fun h1 h2=>by
  apply Nat.lt_of_le_of_ne ha
  intro e
  have:l.length-1=a:=by omega
  unfold xU at hlast
  rw [this] at hlast
  rcases hlast with h3 | h3
  ·exact h1 h3
  ·exact h2 h3
 have hj:((l.getD a default).op=11∨(l.getD a default).op=12)→0≤(l.getD a default).n∧(l.getD a default).n<l.length:=fun ho=>by
  unfold jL at hx
  rcases ho with ho | ho
  ·simp only [ho,qX9] at hx
   simp [-qXb] at hx
   omega
  ·simp only [ho,qX9] at hx
   simp [-qXb] at hx
   omega
 intro n hn
 unfold yF at hn
 simp only at hn
 generalize (l.getD a default)=x at *
 split at hn
 ·simp at hn
 ·rename_i h13
  split at hn
  ·rename_i h11
   have:=hj (.inl h11)
   simp at hn
   omega
  ·rename_i h11
   have hn1:=hnl h13 h11
   split at hn
   ·rename_i h12
    have:=hj (.inr h12)
    split at hn
    ·simp at hn
     omega
    ·split at hn
     ·simp at hn
      omega
     ·simp at hn
      omega
   ·simp at hn
    omega
theorem kG {l:List Ins} (h:wV l 3=true) {a:Nat} (ha:a<l.length):rH (l.getD a default):=by
 unfold wV at h
 simp only [qX9,qZ1] at h
 exact qUh (h.1.2 _ (yR l a default ha))
theorem kH {l:List Ins} {ch:Int} (h:wV l ch=true):1≤l.length∧l.length≤24:=by
 unfold wV at h
 simp only [qX9,qK] at h
 omega
def xV (n:Nat):KS:=(qX3 n []).set 0 qBh
theorem kA (n i:Nat) (h:0<n):kat (xV n) i=if i=0 then qBh else []:=by
 unfold xV kat
 rw [bC _ _ _ _ _ (by simpa using h)]
 split
 ·rfl
 ·simp [qXb,List.getElem?_replicate]
  split<;>rfl
theorem pZ {l:List Ins} (h:0<l.length):tR l (xV l.length):=by
 refine ⟨by simp [xV],fun i=>?_,?_,fun T hT i=>?_⟩
 ·rw [kA _ _ h]
  split
  ·exact .inr qO4
  ·exact .inl rfl
 ·rw [kA _ _ h,if_pos rfl]
  exact ⟨qB1 qO4,qCp _⟩
 ·rw [kA _ _ h]
  split
  ·rename_i e
   subst e
   exact .inr hT.init
  ·exact .inl rfl
theorem qSk {l:List Ins} (hb:wV l 3=true) :∀(m:Nat) (S:KS),tR l S→mS S=m→∃K,pP l K:=by
 intro m
 induction m using Nat.strongRecOn with
 | ind m ih =>
  intro S hS hm
  by_cases he :∀a,a<l.length→EOk l S a
  ·exact ⟨S,hS,he⟩
  ·have ⟨a,ha⟩:=Classical.not_forall.1 he
   have ⟨ha1,ha2⟩:=Classical.not_imp.1 ha
   unfold EOk at ha2
   have ⟨hs,h3⟩:=Classical.not_imp.1 ha2
   have ⟨n,h4⟩:=Classical.not_forall.1 h3
   have ⟨hn,h5⟩:=Classical.not_imp.1 h4
   have hni:=(oI hb ha1 n hn).2
   have hwo:=kM (l.getD a default) ((hS.wf a).resolve_left hs)
   have hni':n.toNat<S.length:=by rw [hS.len]; exact hni
   have hd:mA S (bM (l.getD a default) (kat S a)) n.toNat=true:=by
    cases h6:mA S (bM (l.getD a default) (kat S a)) n.toNat with
    | true=>rfl
    | false =>
     have e:=qCq h6
     have hnew:=rN hni' (hS.wf n.toNat) hwo
     rw [e] at hnew
     exact absurd hnew h5
   have hmm:=(qCr hni' (hS.wf n.toNat) hwo).2 hd
   exact ih _ (by omega) _ (qI2 hS hni hwo fun T hT=>qMf hS ha1 (kG hb ha1) hs T hT n hn) rfl
theorem qDw {l:List Ins} (hb:wV l 3=true) :∃K,pP l K:=qSk hb _ _ (pZ (kH hb).1) rfl
def bJ (S:KS):KS:=S.map fun v=>if v=[] then qX3 4 kno else v
def bO (l:List Ins) (K:KS):KS:=if wV l 3 then bJ K else []
end Go.Sep
