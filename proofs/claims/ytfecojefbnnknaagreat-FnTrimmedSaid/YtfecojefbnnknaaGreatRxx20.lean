/- Contracts of functions. -/
import Derived.Test.YtfecojefbnnknaaGreatRxx19
open Int renaming toNat_natCast → wDg
open List renaming getD_eq_getElem?_getD → wBr, length_append → wC5, length_cons → wBk, replicate → wBj
namespace Go.Sep
set_option maxHeartbeats 16000000
open Go.Proofs
set_option linter.unusedSimpArgs false
set_option linter.unusedVariables false
set_option maxRecDepth 100000
def m250:MFn:=⟨35,[.t 4],kr [xo 4 (.mv (.c (.nil)))] (kr [xv 8 0,xe 9 8,xo 10 (.mkS [.bool false] 1 (.t 9) (.t 9)),xv 5 10] (kr [xv 11 1,xc1 12 36 (.t 11),xv 6 12] (.seq (.blk 0 (.loop (.seq (kr [xv 13 6,xe 14 13,bI 15 .gtr 14 0] (kX 15 0)) (.blk 1 (kr [xv 16 6,xo 17 (.iad 1 (.t 16) (xi 0)),xl 18 17,xv 7 18] (kr [xv 19 6,xo 20 (.cut 1 (.t 19) (some (xi 1)) none),xv 6 20] (kr [xv 21 5,xv 22 7,xD 23 1 21 22,xl 24 23,xN 25 24] (.cond 25 (kr [xv 26 5,xv 27 7,xD 28 1 26 27,⟨none,.store 1 (.t 28) (.c (.bool true)),none⟩] (xr [xv 29 6,xv 30 0,xv 31 7,xc2 32 216 (.t 30) (.t 31),xA 33 1 8 29 32,xv 6 33])) (.skip))))))))) (kR [xv 34 5,xv 4 34]))))⟩
def iH (l:List Ins):List Bool×List Int→List Bool×List Int
 | (R,[])=>(R,[])
 | (R,a::td)=>if R.getD a.toNat false then (R,td) else (R.set a.toNat true,td++yO l a.toNat)
def rN (l:List Ins) (s:List Bool×List Int):Nat→List Bool×List Int
 | 0=>s
 | k+1=>iH l (rN l s k)
def cK:List Bool→Nat
 | []=>0
 | b::R=>(if b then 0 else 1)+cK R
theorem fV :∀(R:List Bool) (i:Nat),i<R.length→R.getD i false=false→cK (R.set i true)+1=cK R
 | [],i,h,_=>by simp at h
 | b::R,0,_,hb=>by
  simp at hb
  subst hb
  simp [cK]
  omega
 | b::R,i+1,h,hb=>by
  have:=fV R i (by simpa using h) (by simpa using hb)
  simp only [List.set_cons_succ,cK]
  omega
theorem sW :∀n,cK (wBj n false)=n
 | 0=>rfl
 | n+1=>by rw [List.replicate_succ,cK,sW n]; simp; omega
theorem qRw (l:List Ins) (s:List Bool×List Int) (k:Nat) (h:(rN l s k).2=[]) :∀j,rN l s (k+j)=rN l s k
 | 0=>rfl
 | j+1=>by
  show iH l (rN l s (k+j))=_
  rw [qRw l s k h j]
  generalize rN l s k=q at h
  obtain ⟨R,td⟩:=q
  simp only at h
  subst h
  rfl
def aP (l:List Ins):List Bool×List Int:=(wBj l.length false,[0])
def xW (l:List Ins):List Bool:=(rN l (aP l) (3*l.length+1)).1
theorem eD (l:List Ins) (a:Nat):(yO l a).length≤2:=by
 unfold yO
 simp only
 repeat' split
 all_goals simp
structure qP5 (l:List Ins) (R:List Bool) (td:List Int):Prop where
 len:R.length=l.length
 tok :∀t∈td,0≤t∧t.toNat<l.length
 at_ :∃k,rN l (aP l) k=(R,td)∧k+(3*cK R+td.length)≤3*l.length+1
theorem qF6 {l:List Ins} (h:0<l.length):qP5 l (wBj l.length false) [0] :=
 ⟨by simp,fun t ht=>by rw [List.mem_singleton.1 ht]; exact ⟨by omega,by simpa using h⟩,0,rfl,by rw [sW]; simp⟩
theorem qMv {l:List Ins} {R:List Bool} {n:Nat} {td:List Int} (h:qP5 l R ((n:Int)::td)) (hr:R.getD n false=true):qP5 l R td:=by
 obtain ⟨k,h1,h2⟩:=h.at_
 refine ⟨h.len,fun t ht=>h.tok t (by simp [ht]),k+1,?_,by simp only [wBk] at h2; omega⟩
 show iH l (rN l (aP l) k)=_
 rw [h1]
 simp only [iH,wDg]
 rw [if_pos hr]
theorem qMw {l:List Ins} {R:List Bool} {n:Nat} {td:List Int} (hb:wF l 3=true) (h:qP5 l R ((n:Int)::td)) (hr:R.getD n false=false):qP5 l (R.set n true) (td++yO l n):=by
 obtain ⟨k,h1,h2⟩:=h.at_
 have hn:=h.tok n (by simp)
 simp only [wDg] at hn
 have hf:=fV R n (by rw [h.len]; exact hn.2) hr
 have hl:=eD l n
 refine ⟨by rw [List.length_set]; exact h.len,fun t ht=>?_,k+1,?_,by simp only [wBk,wC5] at h2⊢; omega⟩
 ·rcases List.mem_append.1 ht with ht | ht
  ·exact h.tok t (by simp [ht])
  ·exact zW hb hn.2 t ht
 ·show iH l (rN l (aP l) k)=_
  rw [h1]
  simp only [iH,wDg]
  rw [if_neg (by rw [hr]; simp)]
theorem qMx {l:List Ins} {R:List Bool} (h:qP5 l R []):xW l=R:=by
 obtain ⟨k,h1,h2⟩:=h.at_
 have:=qRw l (aP l) k (by rw [h1]) (3*l.length+1-k)
 rw [show k+(3*l.length+1-k)=3*l.length+1 by omega,h1] at this
 unfold xW
 rw [this]
theorem qPl (l:List Ins) (hb:wF l 3=true):qY Tryz.prog num 250 [.sl .bw 5 (yV l),.sl .bw 1 (wE [0])] [] (.sl .own 1 (jA (xW l))):=by
 obtain ⟨hl1,hl2⟩:=zS hb
 have ci:=cD [0] (by simp)
 refine EN m250 Tryz.func54 ?_
 unfold m250
 simp only [go_sem,seval]
 repeat refine K ?_
 refine CA [] (ci) ?_
 try simp only [go_sem,seval]
 repeat refine K ?_
 try simp only [go_sem,seval]
 repeat refine K ?_
 refine qZ (ι:=List Int×List Bool×List Int) (fun q=>.mk [(0,.sl .bw 5 (yV l)),(5,.ns 10 0 l.length),(6,.ns 11 q.1.length q.2.2.length)] [(10,1,jA q.2.1),(11,1,wE (q.1++q.2.2))] 12) (fun q=>qP5 l q.2.1 q.2.2) (fun q=>3*cK q.2.1+q.2.2.length) ([],wBj l.length false,[0]) (qF6 (by omega)) ?_ ?_
 ·refine Sub.shape [] id (by omega) ?_ ?_ ?_ ?_<;>simp [qK]
  all_goals (exact .inl (tH _ _))
 ·rintro ⟨pre,R,td⟩ hI
  simp only at hI
  have hRl:=hI.len
  simp only [go_sem,seval]
  refine qP (fun hc=>?_) (fun hc=>?_)
  ·rcases td with _ | ⟨a,tl⟩
   ·simp at hc
   have hat:=hI.tok a (by simp)
   obtain ⟨n,rfl⟩ :∃n:Nat,a=(n:Int):=⟨a.toNat,by omega⟩
   simp only [wDg] at hat
   obtain ⟨k,_,hme⟩:=hI.at_
   simp only [wBk] at hme
   have hgp:(wE (pre++(n:Int)::tl)).getD (pre.length+0) []=[.int .i64 n]:=by
    rw [qI _ _ (by simp)]
    simp [wBr]
   have hgp0:(wE (pre++(n:Int)::tl)).getD pre.length []=[.int .i64 n]:=hgp
   have hgr:=zR R n (by omega)
   have hln:(pre++(n:Int)::tl).length=pre.length+(tl.length+1):=by simp
   have hnl:=eD l n
   cases hr:R.getD n false
   ·rw [hr] at hgr
    have hnx:=qMw hb hI hr
    simp only [go_sem,seval,hgp,hgp0,hgr,hRl,hln,tG]
    repeat refine K ?_
    refine CA [] (rX l n hb hat.2) ?_
    try simp only [go_sem,seval]
    repeat refine K ?_
    try simp only [go_sem,seval,hln]
    repeat refine K ?_
    have e1:List.take (yO l n).length (yO l n)=yO l n:=List.take_length
    have e2:List.drop (pre.length+1) (pre++(n:Int)::tl)=tl:=by
     rw [List.drop_append]
     simp
    have hf:=fV R n (by omega) hr
    rw [e1,e2]
    refine qM ([],R.set n true,tl++yO l n) ?_ hnx (by simp only [wC5]; omega)
    refine Sub.shape [] (fun m=>if m=11 then 13 else m) (by omega) ?_ ?_ ?_ ?_<;>simp [qK]
   ·rw [hr] at hgr
    have hnx:=qMv hI hr
    simp only [go_sem,seval,hgp,hgp0,hgr,hRl,hln]
    repeat refine K ?_
    refine qM (pre++[(n:Int)],R,tl) ?_ hnx (by simp only; omega)
    refine Sub.shape [] id (by omega) ?_ ?_ ?_ ?_<;>simp [qK]
  ·have he:td=[]:=by
    cases td with
    | nil=>rfl
    | cons a tl=>simp at hc
   subst he
   have hR:=qMx hI
   simp only [go_sem,seval]
   repeat refine K ?_
   rw [hR]
   refine ⟨_,Sub.refl _,qU ?_⟩; simp [-List.drop_one]
   all_goals (try simp [hRl])
structure RCl (l:List Ins) (R:List Bool) (td:List Int):Prop where
 zero:R.getD 0 false=true∨(0:Int)∈td
 next :∀a,a<l.length→R.getD a false=true→∀m∈yO l a,R.getD m.toNat false=true∨m∈td
theorem qJc (R:List Bool) (i j:Nat) (h:R.getD j false=true):(R.set i true).getD j false=true:=by
 by_cases hi:i<R.length
 ·rw [jL _ _ _ _ _ hi]
  split
  ·rfl
  ·exact h
 ·rw [List.set_eq_of_length_le (by omega)]
  exact h
theorem qVq {l:List Ins} {R:List Bool} {a:Int} {td:List Int} (hR:R.length=l.length) (ha:0≤a∧a.toNat<l.length) (h:RCl l R (a::td)):RCl l (iH l (R,a::td)).1 (iH l (R,a::td)).2:=by
 have e0:iH l (R,a::td)=if R.getD a.toNat false then (R,td) else (R.set a.toNat true,td++yO l a.toNat):=rfl
 rw [e0]
 by_cases hr:R.getD a.toNat false=true
 ·rw [if_pos hr]
  refine ⟨?_,fun b hb hbr m hm=>?_⟩
  ·rcases h.zero with e | e
   ·exact .inl e
   ·rcases List.mem_cons.1 e with e | e
    ·exact .inl (by rw [←e] at hr; exact hr)
    ·exact .inr e
  ·rcases h.next b hb hbr m hm with e | e
   ·exact .inl e
   ·rcases List.mem_cons.1 e with e | e
    ·exact .inl (by rw [e]; exact hr)
    ·exact .inr e
 ·rw [if_neg hr]
  have hself:(R.set a.toNat true).getD a.toNat false=true:=by rw [jL _ _ _ _ _ (by omega),if_pos rfl]
  refine ⟨?_,fun b hb hbr m hm=>?_⟩
  ·rcases h.zero with e | e
   ·exact .inl (qJc _ _ _ e)
   ·rcases List.mem_cons.1 e with e | e
    ·exact .inl (by rw [←e] at hself⊢; exact hself)
    ·exact .inr (by simp [e])
  ·simp only at hbr
   by_cases hba:b=a.toNat
   ·subst hba
    exact .inr (by simp [hm])
   ·rw [jL _ _ _ _ _ (by omega),if_neg hba] at hbr
    rcases h.next b hb hbr m hm with e | e
    ·exact .inl (qJc _ _ _ e)
    ·rcases List.mem_cons.1 e with e | e
     ·exact .inl (by rw [e]; exact hself)
     ·exact .inr (by simp [e])
structure wAx (l:List Ins) (q:List Bool×List Int) (k:Nat):Prop where
 len:q.1.length=l.length
 tok :∀t∈q.2,0≤t∧t.toNat<l.length
 cl:RCl l q.1 q.2
 me:q.2=[]∨k+(3*cK q.1+q.2.length)≤3*l.length+1
theorem wAq {l:List Ins} (hb:wF l 3=true) :∀k,wAx l (rN l (aP l) k) k
 | 0=>by
  have hl:=(zS hb).1
  refine ⟨by simp [rN,aP],fun t ht=>?_,⟨.inr (by simp [rN,aP]),fun a ha hr=>?_⟩,.inr ?_⟩
  ·simp only [rN,aP,List.mem_singleton] at ht
   subst ht
   exact ⟨by omega,by show 0<l.length; omega⟩
  ·simp only [rN,aP] at hr
   simp [wBr,ha] at hr
  ·simp only [rN,aP,sW,List.length_singleton]
   omega
 | k+1=>by
  have ih:=wAq hb k
  show wAx l (iH l (rN l (aP l) k)) (k+1)
  generalize rN l (aP l) k=q at ih
  obtain ⟨R,td⟩:=q
  obtain ⟨h1,h2,h3,h4⟩:=ih
  simp only at h1 h2 h3 h4
  cases td with
  | nil=>exact ⟨h1,h2,h3,.inl rfl⟩
  | cons a td =>
   have ha:=h2 a (by simp)
   have hc:=qVq h1 ha h3
   have hm:k+(3*cK R+(td.length+1))≤3*l.length+1:=by
    rcases h4 with e | e
    ·simp at e
    ·simpa using e
   have hl:=eD l a.toNat
   by_cases hr:R.getD a.toNat false=true
   ·have e:iH l (R,a::td)=(R,td):=by simp only [iH]; rw [if_pos hr]
    rw [e] at hc⊢
    exact ⟨h1,fun t ht=>h2 t (by simp [ht]),hc,.inr (by simp only; omega)⟩
   ·have e:iH l (R,a::td)=(R.set a.toNat true,td++yO l a.toNat):=by simp only [iH]; rw [if_neg hr]
    have hf:=fV R a.toNat (by omega) (by simpa using hr)
    rw [e] at hc⊢
    refine ⟨by simp [h1],fun t ht=>?_,hc,.inr (by simp only [wC5]; omega)⟩
    rcases List.mem_append.1 ht with ht | ht
    ·exact h2 t (by simp [ht])
    ·exact zW hb ha.2 t ht
theorem nY {l:List Ins} (hb:wF l 3=true):(xW l).length=l.length∧(xW l).getD 0 false=true∧∀a,a<l.length→(xW l).getD a false=true→∀m∈yO l a,(xW l).getD m.toNat false=true:=by
 have h:=wAq hb (3*l.length+1)
 have he:(rN l (aP l) (3*l.length+1)).2=[]:=by
  rcases h.me with e | e
  ·exact e
  ·exact List.length_eq_zero_iff.1 (by omega)
 obtain ⟨h1,_,h3,_⟩:=h
 rw [he] at h3
 refine ⟨h1,?_,fun a ha hr m hm=>?_⟩
 ·rcases h3.zero with e | e
  ·exact e
  ·simp at e
 ·rcases h3.next a ha hr m hm with e | e
  ·exact e
  ·simp at e
theorem qSa {p:wQ} {s:wA} {i:Nat} {t:yP} {n:Int} (h:n<((body p i).length:Int)):vQ p s i t true n=⟨s.ths.set i ⟨n,t.regs,t.st⟩,s.chs,s.tr⟩:=by
 unfold vQ
 rw [if_neg]
 rintro (e | e)
 ·exact absurd e (by decide)
 ·have h2:n<((p.bods.getD i []).length:Int):=h
  omega
theorem qWp {p:wQ} {s:wA} {i:Nat} {t:yP} {n:Int}:vQ p s i t false n=⟨s.ths.set i ⟨t.at_,t.regs,2⟩,s.chs,s.tr⟩:=by
 unfold vQ
 rw [if_pos (.inl rfl)]
theorem qWf {x:Ins} (h:x.op=11∨x.op=12) (i:Nat) (regs:List Int) (c:jZ) (chs:List jZ) (tr:List bP):cU x regs c=regs∧qDu x regs chs=chs∧cB x regs c=true∧qDs i x regs tr=tr:=by
 have hx:mJ x=false:=by unfold mJ; simp; omega
 refine ⟨?_,?_,?_,?_⟩
 ·unfold cU
  rw [if_neg (by omega),if_neg (by omega),hx]
  rfl
 ·unfold qDu
  rw [hx]
  rfl
 ·unfold cB
  rw [hx]
  rfl
 ·unfold qDs
  rw [if_neg (by omega)]
def qYo (p:wQ) (n:Nat):wA:=tW p (yJ p).1 (wBj n 0)
def Beh (p q:wQ):Prop :=∀n,∃m,m≤n∧(qYo q m).tr=(qYo p n).tr∧(thd (qYo q m) 0).st=(thd (qYo p n) 0).st
theorem Beh.refl (p:wQ):Beh p p:=fun n=>⟨n,Nat.le_refl _,rfl,rfl⟩
theorem Beh.trans {p q r:wQ} (h:Beh p q) (k:Beh q r):Beh p r:=by
 intro n
 obtain ⟨m,h1,h2,h3⟩:=h n
 obtain ⟨m',k1,k2,k3⟩:=k m
 exact ⟨m',by omega,by rw [k2,h2],by rw [k3,h3]⟩
theorem qO6 {α:Type} (d:α) {l k:List α} (h:l.length=k.length) (e :∀i,i<l.length→l.getD i d=k.getD i d):l=k:=by
 refine List.ext_getElem h fun i h1 h2=>?_
 have:=e i h1
 simpa [wBr,h1,h2] using this
end Go.Sep
