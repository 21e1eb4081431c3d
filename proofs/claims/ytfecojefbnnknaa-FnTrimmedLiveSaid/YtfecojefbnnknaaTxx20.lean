/- Contracts of functions. -/
import Derived.Test.YtfecojefbnnknaaTxx19
open Int renaming toNat_natCast → wAz
open List renaming getD_eq_getElem?_getD → qZa, length_append → qZo, length_cons → qZ3, replicate → qZ2
namespace Go.Sep
set_option maxHeartbeats 16000000
open Go.Proofs
set_option linter.unusedSimpArgs false
set_option linter.unusedVariables false
set_option maxRecDepth 100000
def m250:MFn:=⟨35,[.t 4],kr [xo 4 (.mv (.c (.nil)))] (kr [xv 8 0,xe 9 8,xo 10 (.mkS [.bool false] 1 (.t 9) (.t 9)),xv 5 10] (kr [xv 11 1,xc1 12 36 (.t 11),xv 6 12] (.seq (.blk 0 (.loop (.seq (kr [xv 13 6,xe 14 13,bI 15 .gtr 14 0] (kX 15 0)) (.blk 1 (kr [xv 16 6,xo 17 (.iad 1 (.t 16) (xi 0)),xl 18 17,xv 7 18] (kr [xv 19 6,xo 20 (.cut 1 (.t 19) (some (xi 1)) none),xv 6 20] (kr [xv 21 5,xv 22 7,xD 23 1 21 22,xl 24 23,xN 25 24] (.cond 25 (kr [xv 26 5,xv 27 7,xD 28 1 26 27,⟨none,.store 1 (.t 28) (.c (.bool true)),none⟩] (xr [xv 29 6,xv 30 0,xv 31 7,xc2 32 216 (.t 30) (.t 31),xA 33 1 8 29 32,xv 6 33])) (.skip))))))))) (kR [xv 34 5,xv 4 34]))))⟩
def fP (l:List Ins):List Bool×List Int→List Bool×List Int
 | (R,[])=>(R,[])
 | (R,a::td)=>if R.getD a.toNat false then (R,td) else (R.set a.toNat true,td++vM l a.toNat)
def rN (l:List Ins) (s:List Bool×List Int):Nat→List Bool×List Int
 | 0=>s
 | k+1=>fP l (rN l s k)
def fB:List Bool→Nat
 | []=>0
 | b::R=>(if b then 0 else 1)+fB R
theorem lM :∀(R:List Bool) (i:Nat),i<R.length→R.getD i false=false→fB (R.set i true)+1=fB R
 | [],i,h,_=>by simp at h
 | b::R,0,_,hb=>by
  simp at hb
  subst hb
  simp [fB]
  omega
 | b::R,i+1,h,hb=>by
  have:=lM R i (by simpa using h) (by simpa using hb)
  simp only [List.set_cons_succ,fB]
  omega
theorem pX :∀n,fB (qZ2 n false)=n
 | 0=>rfl
 | n+1=>by rw [List.replicate_succ,fB,pX n]; simp; omega
theorem qPb (l:List Ins) (s:List Bool×List Int) (k:Nat) (h:(rN l s k).2=[]) :∀j,rN l s (k+j)=rN l s k
 | 0=>rfl
 | j+1=>by
  show fP l (rN l s (k+j))=_
  rw [qPb l s k h j]
  generalize rN l s k=q at h
  obtain ⟨R,td⟩:=q
  simp only at h
  subst h
  rfl
def aB (l:List Ins):List Bool×List Int:=(qZ2 l.length false,[0])
def aX (l:List Ins):List Bool:=(rN l (aB l) (3*l.length+1)).1
theorem lE (l:List Ins) (a:Nat):(vM l a).length≤2:=by
 unfold vM
 simp only
 repeat' split
 all_goals simp
structure qOm (l:List Ins) (R:List Bool) (td:List Int):Prop where
 len:R.length=l.length
 tok :∀t∈td,0≤t∧t.toNat<l.length
 at_ :∃k,rN l (aB l) k=(R,td)∧k+(3*fB R+td.length)≤3*l.length+1
theorem qMw {l:List Ins} (h:0<l.length):qOm l (qZ2 l.length false) [0] :=
 ⟨by simp,fun t ht=>by rw [List.mem_singleton.1 ht]; exact ⟨by omega,by simpa using h⟩,0,rfl,by rw [pX]; simp⟩
theorem qT6 {l:List Ins} {R:List Bool} {n:Nat} {td:List Int} (h:qOm l R ((n:Int)::td)) (hr:R.getD n false=true):qOm l R td:=by
 obtain ⟨k,h1,h2⟩:=h.at_
 refine ⟨h.len,fun t ht=>h.tok t (by simp [ht]),k+1,?_,by simp only [qZ3] at h2; omega⟩
 show fP l (rN l (aB l) k)=_
 rw [h1]
 simp only [fP,wAz]
 rw [if_pos hr]
theorem qT7 {l:List Ins} {R:List Bool} {n:Nat} {td:List Int} (hb:wJ l 3=true) (h:qOm l R ((n:Int)::td)) (hr:R.getD n false=false):qOm l (R.set n true) (td++vM l n):=by
 obtain ⟨k,h1,h2⟩:=h.at_
 have hn:=h.tok n (by simp)
 simp only [wAz] at hn
 have hf:=lM R n (by rw [h.len]; exact hn.2) hr
 have hl:=lE l n
 refine ⟨by rw [List.length_set]; exact h.len,fun t ht=>?_,k+1,?_,by simp only [qZ3,qZo] at h2⊢; omega⟩
 ·rcases List.mem_append.1 ht with ht | ht
  ·exact h.tok t (by simp [ht])
  ·exact aY hb hn.2 t ht
 ·show fP l (rN l (aB l) k)=_
  rw [h1]
  simp only [fP,wAz]
  rw [if_neg (by rw [hr]; simp)]
theorem qT8 {l:List Ins} {R:List Bool} (h:qOm l R []):aX l=R:=by
 obtain ⟨k,h1,h2⟩:=h.at_
 have:=qPb l (aB l) k (by rw [h1]) (3*l.length+1-k)
 rw [show k+(3*l.length+1-k)=3*l.length+1 by omega,h1] at this
 unfold aX
 rw [this]
theorem qMy (l:List Ins) (hb:wJ l 3=true):wB Try.prog num 250 [.sl .bw 5 (vC l),.sl .bw 1 (wK [0])] [] (.sl .own 1 (vN (aX l))):=by
 obtain ⟨hl1,hl2⟩:=kJ hb
 have ci:=eL [0] (by simp)
 refine EN m250 Try.func75 ?_
 unfold m250
 simp only [go_sem,seval]
 repeat refine K ?_
 refine CA [] (ci) ?_
 try simp only [go_sem,seval]
 repeat refine K ?_
 try simp only [go_sem,seval]
 repeat refine K ?_
 refine wR (ι:=List Int×List Bool×List Int) (fun q=>.mk [(0,.sl .bw 5 (vC l)),(5,.ns 10 0 l.length),(6,.ns 11 q.1.length q.2.2.length)] [(10,1,vN q.2.1),(11,1,wK (q.1++q.2.2))] 12) (fun q=>qOm l q.2.1 q.2.2) (fun q=>3*fB q.2.1+q.2.2.length) ([],qZ2 l.length false,[0]) (qMw (by omega)) ?_ ?_
 ·refine Sub.shape [] id (by omega) ?_ ?_ ?_ ?_<;>simp [qU]
  all_goals (exact .inl (qOc _ _))
 ·rintro ⟨pre,R,td⟩ hI
  simp only at hI
  have hRl:=hI.len
  simp only [go_sem,seval]
  refine qZ (fun hc=>?_) (fun hc=>?_)
  ·rcases td with _ | ⟨a,tl⟩
   ·simp at hc
   have hat:=hI.tok a (by simp)
   obtain ⟨n,rfl⟩ :∃n:Nat,a=(n:Int):=⟨a.toNat,by omega⟩
   simp only [wAz] at hat
   obtain ⟨k,_,hme⟩:=hI.at_
   simp only [qZ3] at hme
   have hgp:(wK (pre++(n:Int)::tl)).getD (pre.length+0) []=[.int .i64 n]:=by
    rw [qJ _ _ (by simp)]
    simp [qZa]
   have hgp0:(wK (pre++(n:Int)::tl)).getD pre.length []=[.int .i64 n]:=hgp
   have hgr:=qC4 R n (by omega)
   have hln:(pre++(n:Int)::tl).length=pre.length+(tl.length+1):=by simp
   have hnl:=lE l n
   cases hr:R.getD n false
   ·rw [hr] at hgr
    have hnx:=qT7 hb hI hr
    simp only [go_sem,seval,hgp,hgp0,hgr,hRl,hln,qF5]
    repeat refine K ?_
    refine CA [] (pE l n hb hat.2) ?_
    try simp only [go_sem,seval]
    repeat refine K ?_
    try simp only [go_sem,seval,hln]
    repeat refine K ?_
    have e1:List.take (vM l n).length (vM l n)=vM l n:=List.take_length
    have e2:List.drop (pre.length+1) (pre++(n:Int)::tl)=tl:=by
     rw [List.drop_append]
     simp
    have hf:=lM R n (by omega) hr
    rw [e1,e2]
    refine wC ([],R.set n true,tl++vM l n) ?_ hnx (by simp only [qZo]; omega)
    refine Sub.shape [] (fun m=>if m=11 then 13 else m) (by omega) ?_ ?_ ?_ ?_<;>simp [qU]
   ·rw [hr] at hgr
    have hnx:=qT6 hI hr
    simp only [go_sem,seval,hgp,hgp0,hgr,hRl,hln]
    repeat refine K ?_
    refine wC (pre++[(n:Int)],R,tl) ?_ hnx (by simp only; omega)
    refine Sub.shape [] id (by omega) ?_ ?_ ?_ ?_<;>simp [qU]
  ·have he:td=[]:=by
    cases td with
    | nil=>rfl
    | cons a tl=>simp at hc
   subst he
   have hR:=qT8 hI
   simp only [go_sem,seval]
   repeat refine K ?_
   rw [hR]
   refine ⟨_,Sub.refl _,wO ?_⟩; simp [-List.drop_one]
   all_goals (try simp [hRl])
structure RCl (l:List Ins) (R:List Bool) (td:List Int):Prop where
 zero:R.getD 0 false=true∨(0:Int)∈td
 next :∀a,a<l.length→R.getD a false=true→∀m∈vM l a,R.getD m.toNat false=true∨m∈td
theorem qHf (R:List Bool) (i j:Nat) (h:R.getD j false=true):(R.set i true).getD j false=true:=by
 by_cases hi:i<R.length
 ·rw [jC _ _ _ _ _ hi]
  split
  ·rfl
  ·exact h
 ·rw [List.set_eq_of_length_le (by omega)]
  exact h
theorem qTc {l:List Ins} {R:List Bool} {a:Int} {td:List Int} (hR:R.length=l.length) (ha:0≤a∧a.toNat<l.length) (h:RCl l R (a::td)):RCl l (fP l (R,a::td)).1 (fP l (R,a::td)).2:=by
 have e0:fP l (R,a::td)=if R.getD a.toNat false then (R,td) else (R.set a.toNat true,td++vM l a.toNat):=rfl
 rw [e0]
 by_cases hr:R.getD a.toNat false=true
 ·rw [if_pos hr]
  refine ⟨?_,fun b hb hbr m hm=>?_⟩
  ·rcases h.zero with e | e
   ·exact .inl e
   ·rcases List.mem_cons.1 e with e | e
    ·exact .inl (by rw [←e] at hr; exact hr)
    ·exact .inr e
  ·rcases h.next b hb hbr m hm with e | e
   ·exact .inl e
   ·rcases List.mem_cons.1 e with e | e
    ·exact .inl (by rw [e]; exact hr)
    ·exact .inr e
 ·rw [if_neg hr]
  have hself:(R.set a.toNat true).getD a.toNat false=true:=by rw [jC _ _ _ _ _ (by omega),if_pos rfl]
  refine ⟨?_,fun b hb hbr m hm=>?_⟩
  ·rcases h.zero with e | e
   ·exact .inl (qHf _ _ _ e)
   ·rcases List.mem_cons.1 e with e | e
    ·exact .inl (by rw [←e] at hself⊢; exact hself)
    ·exact .inr (by simp [e])
  ·simp only at hbr
   by_cases hba:b=a.toNat
   ·subst hba
    exact .inr (by simp [hm])
   ·rw [jC _ _ _ _ _ (by omega),if_neg hba] at hbr
    rcases h.next b hb hbr m hm with e | e
    ·exact .inl (qHf _ _ _ e)
    ·rcases List.mem_cons.1 e with e | e
     ·exact .inl (by rw [e]; exact hself)
     ·exact .inr (by simp [e])
structure qYf (l:List Ins) (q:List Bool×List Int) (k:Nat):Prop where
 len:q.1.length=l.length
 tok :∀t∈q.2,0≤t∧t.toNat<l.length
 cl:RCl l q.1 q.2
 me:q.2=[]∨k+(3*fB q.1+q.2.length)≤3*l.length+1
theorem qYa {l:List Ins} (hb:wJ l 3=true) :∀k,qYf l (rN l (aB l) k) k
 | 0=>by
  have hl:=(kJ hb).1
  refine ⟨by simp [rN,aB],fun t ht=>?_,⟨.inr (by simp [rN,aB]),fun a ha hr=>?_⟩,.inr ?_⟩
  ·simp only [rN,aB,List.mem_singleton] at ht
   subst ht
   exact ⟨by omega,by show 0<l.length; omega⟩
  ·simp only [rN,aB] at hr
   simp [qZa,ha] at hr
  ·simp only [rN,aB,pX,List.length_singleton]
   omega
 | k+1=>by
  have ih:=qYa hb k
  show qYf l (fP l (rN l (aB l) k)) (k+1)
  generalize rN l (aB l) k=q at ih
  obtain ⟨R,td⟩:=q
  obtain ⟨h1,h2,h3,h4⟩:=ih
  simp only at h1 h2 h3 h4
  cases td with
  | nil=>exact ⟨h1,h2,h3,.inl rfl⟩
  | cons a td =>
   have ha:=h2 a (by simp)
   have hc:=qTc h1 ha h3
   have hm:k+(3*fB R+(td.length+1))≤3*l.length+1:=by
    rcases h4 with e | e
    ·simp at e
    ·simpa using e
   have hl:=lE l a.toNat
   by_cases hr:R.getD a.toNat false=true
   ·have e:fP l (R,a::td)=(R,td):=by simp only [fP]; rw [if_pos hr]
    rw [e] at hc⊢
    exact ⟨h1,fun t ht=>h2 t (by simp [ht]),hc,.inr (by simp only; omega)⟩
   ·have e:fP l (R,a::td)=(R.set a.toNat true,td++vM l a.toNat):=by simp only [fP]; rw [if_neg hr]
    have hf:=lM R a.toNat (by omega) (by simpa using hr)
    rw [e] at hc⊢
    refine ⟨by simp [h1],fun t ht=>?_,hc,.inr (by simp only [qZo]; omega)⟩
    rcases List.mem_append.1 ht with ht | ht
    ·exact h2 t (by simp [ht])
    ·exact aY hb ha.2 t ht
theorem qDp {l:List Ins} (hb:wJ l 3=true):(aX l).length=l.length∧(aX l).getD 0 false=true∧∀a,a<l.length→(aX l).getD a false=true→∀m∈vM l a,(aX l).getD m.toNat false=true:=by
 have h:=qYa hb (3*l.length+1)
 have he:(rN l (aB l) (3*l.length+1)).2=[]:=by
  rcases h.me with e | e
  ·exact e
  ·exact List.length_eq_zero_iff.1 (by omega)
 obtain ⟨h1,_,h3,_⟩:=h
 rw [he] at h3
 refine ⟨h1,?_,fun a ha hr m hm=>?_⟩
 ·rcases h3.zero with e | e
  ·exact e
  ·simp at e
 ·rcases h3.next a ha hr m hm with e | e
  ·exact e
  ·simp at e
theorem qPo {p:wT} {s:qS} {i:Nat} {t:yJ} {n:Int} (h:n<((body p i).length:Int)):vJ p s i t true n=⟨s.ths.set i ⟨n,t.regs,t.st⟩,s.chs,s.tr⟩:=by
 unfold vJ
 rw [if_neg]
 rintro (e | e)
 ·exact absurd e (by decide)
 ·have h2:n<((p.bods.getD i []).length:Int):=h
  omega
theorem qUc {p:wT} {s:qS} {i:Nat} {t:yJ} {n:Int}:vJ p s i t false n=⟨s.ths.set i ⟨t.at_,t.regs,2⟩,s.chs,s.tr⟩:=by
 unfold vJ
 rw [if_pos (.inl rfl)]
theorem qU2 {x:Ins} (h:x.op=11∨x.op=12) (i:Nat) (regs:List Int) (c:jN) (chs:List jN) (tr:List bS):cB x regs c=regs∧qCg x regs chs=chs∧eK x regs c=true∧qCe i x regs tr=tr:=by
 have hx:lI x=false:=by unfold lI; simp; omega
 refine ⟨?_,?_,?_,?_⟩
 ·unfold cB
  rw [if_neg (by omega),if_neg (by omega),hx]
  rfl
 ·unfold qCg
  rw [hx]
  rfl
 ·unfold eK
  rw [hx]
  rfl
 ·unfold qCe
  rw [if_neg (by omega)]
def qW8 (p:wT) (n:Nat):qS:=rU p (yG p).1 (qZ2 n 0)
def Beh (p q:wT):Prop :=∀n,∃m,m≤n∧(qW8 q m).tr=(qW8 p n).tr∧(thd (qW8 q m) 0).st=(thd (qW8 p n) 0).st
theorem Beh.refl (p:wT):Beh p p:=fun n=>⟨n,Nat.le_refl _,rfl,rfl⟩
theorem Beh.trans {p q r:wT} (h:Beh p q) (k:Beh q r):Beh p r:=by
 intro n
 obtain ⟨m,h1,h2,h3⟩:=h n
 obtain ⟨m',k1,k2,k3⟩:=k m
 exact ⟨m',by omega,by rw [k2,h2],by rw [k3,h3]⟩
theorem qLo {α:Type} (d:α) {l k:List α} (h:l.length=k.length) (e :∀i,i<l.length→l.getD i d=k.getD i d):l=k:=by
 refine List.ext_getElem h fun i h1 h2=>?_
 have:=e i h1
 simpa [qZa,h1,h2] using this
end Go.Sep
