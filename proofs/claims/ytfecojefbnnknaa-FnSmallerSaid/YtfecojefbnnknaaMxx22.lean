/- Contracts of functions. -/
import Derived.Test.YtfecojefbnnknaaMxx19
open Int renaming toNat_natCast → wEj
open List renaming drop_one → wEc, getD_eq_getElem?_getD → wCu, length_append → wD8, length_cons → wCn, replicate → wCm
namespace Go.Sep
set_option maxHeartbeats 16000000
open Go.Proofs
set_option linter.unusedSimpArgs false
set_option linter.unusedVariables false
set_option maxRecDepth 100000
def m249:MFn:=⟨26,[.t 4],kr [xI 4 0] (.seq (kr [xv 5 0,xv 6 1,xc2 7 295 (.t 5) (.t 6),xN 8 7] (kF 8 [xo 4 (.mv (.c (.int .i64 (-1))))])) (.seq (kr [xv 9 0,xe 10 9,xI 11 0] (.blk 0 (.loop (kr [bT 12 .lss 11 10] (.seq (kX 12 0) (.seq (.blk 1 (kr [xv 13 0,xv 14 1,xD 15 5 13 14,xa 16 0 15,xl 17 16,bI 18 .eql 17 11] (.cond 18 (xr [xv 19 0,xv 20 1,xD 21 5 19 20,xa 22 4 21,xl 23 22,xv 1 23]) (.skip)))) (xr [bI 24 .add 11 1,xv 11 24]))))))) (kR [xv 25 1,xv 4 25])))⟩
def m250:MFn:=⟨35,[.t 4],kr [xo 4 (.mv (.c (.nil)))] (kr [xv 8 0,xe 9 8,xo 10 (.mkS [.bool false] 1 (.t 9) (.t 9)),xv 5 10] (kr [xv 11 1,xc1 12 36 (.t 11),xv 6 12] (.seq (.blk 0 (.loop (.seq (kr [xv 13 6,xe 14 13,bI 15 .gtr 14 0] (kX 15 0)) (.blk 1 (kr [xv 16 6,xo 17 (.iad 1 (.t 16) (xi 0)),xl 18 17,xv 7 18] (kr [xv 19 6,xo 20 (.cut 1 (.t 19) (some (xi 1)) none),xv 6 20] (kr [xv 21 5,xv 22 7,xD 23 1 21 22,xl 24 23,xN 25 24] (.cond 25 (kr [xv 26 5,xv 27 7,xD 28 1 26 27,⟨none,.store 1 (.t 28) (.c (.bool true)),none⟩] (xr [xv 29 6,xv 30 0,xv 31 7,xc2 32 216 (.t 30) (.t 31),xA 33 1 8 29 32,xv 6 33])) (.skip))))))))) (kR [xv 34 5,xv 4 34]))))⟩
def m295:MFn:=⟨14,[.t 4],kr [xF 4] (kR [xv 5 0,xc2 6 67 (.t 5) (xi 3),xv 7 6,yv 8 1 7,yv 9 0 7,ye 10 9 7,yI 11 .sub 10 1 7,xg 12 (.call 59 [false,false,false] [.t 8,xi 0,.t 11]) 7 true,xP 13 7 12,xv 4 13])⟩
def fK (l:List Ins) (n:Int):Bool:=wB l 3&&qR n 0 ((l.length:Int)-1)
theorem qPs (l:List Ins) (n:Int) (hl:l.length<2^47):wD Try.prog num 295 [.sl .bw 5 (yX l),.int .i64 n] [] (.bool (fK l n)):=by
 have hw:IntKind.i64.wrap ((l.length:Int)-1)=(l.length:Int)-1:=yV (by omega) (by omega)
 refine EN m295 Try.func105 ?_
 unfold m295
 simp only [go_sem,seval]
 repeat refine K ?_
 refine CA [] (zO l 3 hl (by omega) (by omega)) ?_
 try simp only [go_sem,seval]
 repeat refine K ?_
 cases hb:wB l 3
 ·try simp only [go_sem,seval,hb]
  repeat refine K ?_
  refine fz ?_; simp [yS,wL,wM,wV,-wEc]
  all_goals simp [fK,hb]
 ·try simp only [go_sem,seval,hb,hw]
  repeat refine K ?_
  refine CA [] (uF n 0 ((l.length:Int)-1)) ?_
  try simp only [go_sem,seval]
  repeat refine K ?_
  try simp only [go_sem,seval]
  repeat refine K ?_
  refine fz ?_; simp [yS,wL,wM,wV,-wEc]
  all_goals simp [fK,hb]
def qA7 (l:List Ins) (n:Int):Int:=if (l.getD n.toNat default).op=11 then (l.getD n.toNat default).n else n
def xO (l:List Ins) (n:Int):Nat→Int
 | 0=>n
 | k+1=>qA7 l (xO l n k)
theorem qWb {l:List Ins} (hb:wB l 3=true) {n:Int} (h:0≤n∧n.toNat<l.length):0≤qA7 l n∧(qA7 l n).toNat<l.length:=by
 unfold qA7
 split
 ·rename_i h11
  refine xE hb h.2 _ ?_
  unfold yD
  simp only
  rw [if_neg (by omega),if_pos h11]
  exact List.mem_singleton.2 rfl
 ·exact h
theorem qFe {l:List Ins} (hb:wB l 3=true) {n:Int} (h:0≤n∧n.toNat<l.length) :∀k,0≤xO l n k∧(xO l n k).toNat<l.length
 | 0=>h
 | k+1=>qWb hb (qFe hb h k)
def eR (l:List Ins) (n:Int):Int:=if fK l n then xO l n l.length else -1
theorem qO5 (l:List Ins) (n:Int) (hl:l.length<2^47):wD Try.prog num 249 [.sl .bw 5 (yX l),.int .i64 n] [] (.int .i64 (eR l n)):=by
 refine EN m249 Try.func94 ?_
 unfold m249
 simp only [go_sem,seval]
 repeat refine K ?_
 refine CA [] (qPs l n hl) ?_
 try simp only [go_sem,seval]
 repeat refine K ?_
 cases hp:fK l n
 ·try simp only [go_sem,seval,hp]
  repeat refine K ?_
  refine fz ?_; simp [yS,wL,wM,wV,-wEc]
  all_goals simp [eR,hp]
 ·try simp only [go_sem,seval,hp]
  repeat refine K ?_
  have hb:wB l 3=true:=by
   unfold fK at hp
   rw [Bool.and_eq_true] at hp
   exact hp.1
  have hn:0≤n∧n.toNat<l.length:=by
   unfold fK at hp
   rw [Bool.and_eq_true,qK] at hp
   omega
  refine wJ (ι:=Nat) (fun i=>.mk [(0,.sl .bw 5 (yX l)),(1,.int .i64 (xO l n i)),(10,.int .i64 l.length),(11,.int .i64 i)] [] 10) (fun i=>i≤l.length) (fun i=>l.length-i) 0 (by simp) ?_ ?_
  ·refine Sub.shape [] id (by omega) ?_ ?_ ?_ ?_<;>simp [qL]
   all_goals simp [xO]
  ·intro i hi
   have hk:=qFe hb hn i
   have hs:xO l n (i+1)=qA7 l (xO l n i):=rfl
   simp only [go_sem,seval]
   refine qX (fun hc=>?_) (fun hc=>?_)
   ·simp only [decide_eq_true_eq] at hc
    unfold qA7 at hs
    generalize xO l n i=q at hk hs
    have hg:=uS l q.toNat hk.2
    generalize l.getD q.toNat default=x at hg hs
    by_cases h11:x.op=11
    ·rw [if_pos h11] at hs
     simp only [go_sem,seval,hg,h11,qV (i:=i) (by omega)]
     repeat refine K ?_
     refine qT (i+1) ?_ (by omega) (by omega)
     rw [hs]
     refine Sub.shape [] id (by omega) ?_ ?_ ?_ ?_<;>simp [qL]
    ·rw [if_neg h11] at hs
     simp only [go_sem,seval,hg,h11,qV (i:=i) (by omega)]
     repeat refine K ?_
     refine qT (i+1) ?_ (by omega) (by omega)
     rw [hs]
     refine Sub.shape [] id (by omega) ?_ ?_ ?_ ?_<;>simp [qL]
   ·simp only [decide_eq_false_iff_not] at hc
    have he:i=l.length:=by omega
    subst he
    simp only [go_sem,seval]
    repeat refine K ?_
    refine fz ?_; simp [yS,wL,wM,wV,-wEc]
    all_goals simp [eR,hp]
def kB (l:List Ins):List Bool×List Int→List Bool×List Int
 | (R,[])=>(R,[])
 | (R,a::td)=>if R.getD a.toNat false then (R,td) else (R.set a.toNat true,td++yD l a.toNat)
def rN (l:List Ins) (s:List Bool×List Int):Nat→List Bool×List Int
 | 0=>s
 | k+1=>kB l (rN l s k)
def iN:List Bool→Nat
 | []=>0
 | b::R=>(if b then 0 else 1)+iN R
theorem nK :∀(R:List Bool) (i:Nat),i<R.length→R.getD i false=false→iN (R.set i true)+1=iN R
 | [],i,h,_=>by simp at h
 | b::R,0,_,hb=>by
  simp at hb
  subst hb
  simp [iN]
  omega
 | b::R,i+1,h,hb=>by
  have:=nK R i (by simpa using h) (by simpa using hb)
  simp only [List.set_cons_succ,iN]
  omega
theorem tK :∀n,iN (wCm n false)=n
 | 0=>rfl
 | n+1=>by rw [List.replicate_succ,iN,tK n]; simp; omega
theorem qS8 (l:List Ins) (s:List Bool×List Int) (k:Nat) (h:(rN l s k).2=[]) :∀j,rN l s (k+j)=rN l s k
 | 0=>rfl
 | j+1=>by
  show kB l (rN l s (k+j))=_
  rw [qS8 l s k h j]
  generalize rN l s k=q at h
  obtain ⟨R,td⟩:=q
  simp only at h
  subst h
  rfl
def eE (l:List Ins):List Bool×List Int:=(wCm l.length false,[0])
def dT (l:List Ins):List Bool:=(rN l (eE l) (3*l.length+1)).1
theorem nC (l:List Ins) (a:Nat):(yD l a).length≤2:=by
 unfold yD
 simp only
 repeat' split
 all_goals simp
structure qRh (l:List Ins) (R:List Bool) (td:List Int):Prop where
 len:R.length=l.length
 tok :∀t∈td,0≤t∧t.toNat<l.length
 at_ :∃k,rN l (eE l) k=(R,td)∧k+(3*iN R+td.length)≤3*l.length+1
theorem qPo {l:List Ins} (h:0<l.length):qRh l (wCm l.length false) [0] :=
 ⟨by simp,fun t ht=>by rw [List.mem_singleton.1 ht]; exact ⟨by omega,by simpa using h⟩,0,rfl,by rw [tK]; simp⟩
theorem qWe {l:List Ins} {R:List Bool} {n:Nat} {td:List Int} (h:qRh l R ((n:Int)::td)) (hr:R.getD n false=true):qRh l R td:=by
 obtain ⟨k,h1,h2⟩:=h.at_
 refine ⟨h.len,fun t ht=>h.tok t (by simp [ht]),k+1,?_,by simp only [wCn] at h2; omega⟩
 show kB l (rN l (eE l) k)=_
 rw [h1]
 simp only [kB,wEj]
 rw [if_pos hr]
theorem qWf {l:List Ins} {R:List Bool} {n:Nat} {td:List Int} (hb:wB l 3=true) (h:qRh l R ((n:Int)::td)) (hr:R.getD n false=false):qRh l (R.set n true) (td++yD l n):=by
 obtain ⟨k,h1,h2⟩:=h.at_
 have hn:=h.tok n (by simp)
 simp only [wEj] at hn
 have hf:=nK R n (by rw [h.len]; exact hn.2) hr
 have hl:=nC l n
 refine ⟨by rw [List.length_set]; exact h.len,fun t ht=>?_,k+1,?_,by simp only [wCn,wD8] at h2⊢; omega⟩
 ·rcases List.mem_append.1 ht with ht | ht
  ·exact h.tok t (by simp [ht])
  ·exact xE hb hn.2 t ht
 ·show kB l (rN l (eE l) k)=_
  rw [h1]
  simp only [kB,wEj]
  rw [if_neg (by rw [hr]; simp)]
theorem qWg {l:List Ins} {R:List Bool} (h:qRh l R []):dT l=R:=by
 obtain ⟨k,h1,h2⟩:=h.at_
 have:=qS8 l (eE l) k (by rw [h1]) (3*l.length+1-k)
 rw [show k+(3*l.length+1-k)=3*l.length+1 by omega,h1] at this
 unfold dT
 rw [this]
theorem qFn (l:List Ins) (hb:wB l 3=true):wD Try.prog num 250 [.sl .bw 5 (yX l),.sl .bw 1 (wR [0])] [] (.sl .own 1 (vH (dT l))):=by
 obtain ⟨hl1,hl2⟩:=cX hb
 have ci:=cT [0] (by simp)
 refine EN m250 Try.func75 ?_
 unfold m250
 simp only [go_sem,seval]
 repeat refine K ?_
 refine CA [] (ci) ?_
 try simp only [go_sem,seval]
 repeat refine K ?_
 try simp only [go_sem,seval]
 repeat refine K ?_
 refine wJ (ι:=List Int×List Bool×List Int) (fun q=>.mk [(0,.sl .bw 5 (yX l)),(5,.ns 10 0 l.length),(6,.ns 11 q.1.length q.2.2.length)] [(10,1,vH q.2.1),(11,1,wR (q.1++q.2.2))] 12) (fun q=>qRh l q.2.1 q.2.2) (fun q=>3*iN q.2.1+q.2.2.length) ([],wCm l.length false,[0]) (qPo (by omega)) ?_ ?_
 ·refine Sub.shape [] id (by omega) ?_ ?_ ?_ ?_<;>simp [qL]
  all_goals (exact .inl (qR7 _ _))
 ·rintro ⟨pre,R,td⟩ hI
  simp only at hI
  have hRl:=hI.len
  simp only [go_sem,seval]
  refine qX (fun hc=>?_) (fun hc=>?_)
  ·rcases td with _ | ⟨a,tl⟩
   ·simp at hc
   have hat:=hI.tok a (by simp)
   obtain ⟨n,rfl⟩ :∃n:Nat,a=(n:Int):=⟨a.toNat,by omega⟩
   simp only [wEj] at hat
   obtain ⟨k,_,hme⟩:=hI.at_
   simp only [wCn] at hme
   have hgp:(wR (pre++(n:Int)::tl)).getD (pre.length+0) []=[.int .i64 n]:=by
    rw [qJ _ _ (by simp)]
    simp [wCu]
   have hgp0:(wR (pre++(n:Int)::tl)).getD pre.length []=[.int .i64 n]:=hgp
   have hgr:=kP R n (by omega)
   have hln:(pre++(n:Int)::tl).length=pre.length+(tl.length+1):=by simp
   have hnl:=nC l n
   cases hr:R.getD n false
   ·rw [hr] at hgr
    have hnx:=qWf hb hI hr
    simp only [go_sem,seval,hgp,hgp0,hgr,hRl,hln,qHf]
    repeat refine K ?_
    refine CA [] (lK l n hb hat.2) ?_
    try simp only [go_sem,seval]
    repeat refine K ?_
    try simp only [go_sem,seval,hln]
    repeat refine K ?_
    have e1:List.take (yD l n).length (yD l n)=yD l n:=List.take_length
    have e2:List.drop (pre.length+1) (pre++(n:Int)::tl)=tl:=by
     rw [List.drop_append]
     simp
    have hf:=nK R n (by omega) hr
    rw [e1,e2]
    refine qT ([],R.set n true,tl++yD l n) ?_ hnx (by simp only [wD8]; omega)
    refine Sub.shape [] (fun m=>if m=11 then 13 else m) (by omega) ?_ ?_ ?_ ?_<;>simp [qL]
   ·rw [hr] at hgr
    have hnx:=qWe hI hr
    simp only [go_sem,seval,hgp,hgp0,hgr,hRl,hln]
    repeat refine K ?_
    refine qT (pre++[(n:Int)],R,tl) ?_ hnx (by simp only; omega)
    refine Sub.shape [] id (by omega) ?_ ?_ ?_ ?_<;>simp [qL]
  ·have he:td=[]:=by
    cases td with
    | nil=>rfl
    | cons a tl=>simp at hc
   subst he
   have hR:=qWg hI
   simp only [go_sem,seval]
   repeat refine K ?_
   rw [hR]
   refine ⟨_,Sub.refl _,wG ?_⟩; simp [-wEc]
   all_goals (try simp [hRl])
structure RCl (l:List Ins) (R:List Bool) (td:List Int):Prop where
 zero:R.getD 0 false=true∨(0:Int)∈td
 next :∀a,a<l.length→R.getD a false=true→∀m∈yD l a,R.getD m.toNat false=true∨m∈td
theorem qJv (R:List Bool) (i j:Nat) (h:R.getD j false=true):(R.set i true).getD j false=true:=by
 by_cases hi:i<R.length
 ·rw [yU _ _ _ _ _ hi]
  split
  ·rfl
  ·exact h
 ·rw [List.set_eq_of_length_le (by omega)]
  exact h
theorem qWk {l:List Ins} {R:List Bool} {a:Int} {td:List Int} (hR:R.length=l.length) (ha:0≤a∧a.toNat<l.length) (h:RCl l R (a::td)):RCl l (kB l (R,a::td)).1 (kB l (R,a::td)).2:=by
 have e0:kB l (R,a::td)=if R.getD a.toNat false then (R,td) else (R.set a.toNat true,td++yD l a.toNat):=rfl
 rw [e0]
 by_cases hr:R.getD a.toNat false=true
 ·rw [if_pos hr]
  refine ⟨?_,fun b hb hbr m hm=>?_⟩
  ·rcases h.zero with e | e
   ·exact .inl e
   ·rcases List.mem_cons.1 e with e | e
    ·exact .inl (by rw [←e] at hr; exact hr)
    ·exact .inr e
  ·rcases h.next b hb hbr m hm with e | e
   ·exact .inl e
   ·rcases List.mem_cons.1 e with e | e
    ·exact .inl (by rw [e]; exact hr)
    ·exact .inr e
 ·rw [if_neg hr]
  have hself:(R.set a.toNat true).getD a.toNat false=true:=by rw [yU _ _ _ _ _ (by omega),if_pos rfl]
  refine ⟨?_,fun b hb hbr m hm=>?_⟩
  ·rcases h.zero with e | e
   ·exact .inl (qJv _ _ _ e)
   ·rcases List.mem_cons.1 e with e | e
    ·exact .inl (by rw [←e] at hself⊢; exact hself)
    ·exact .inr (by simp [e])
  ·simp only at hbr
   by_cases hba:b=a.toNat
   ·subst hba
    exact .inr (by simp [hm])
   ·rw [yU _ _ _ _ _ (by omega),if_neg hba] at hbr
    rcases h.next b hb hbr m hm with e | e
    ·exact .inl (qJv _ _ _ e)
    ·rcases List.mem_cons.1 e with e | e
     ·exact .inl (by rw [e]; exact hself)
     ·exact .inr (by simp [e])
structure wBz (l:List Ins) (q:List Bool×List Int) (k:Nat):Prop where
 len:q.1.length=l.length
 tok :∀t∈q.2,0≤t∧t.toNat<l.length
 cl:RCl l q.1 q.2
 me:q.2=[]∨k+(3*iN q.1+q.2.length)≤3*l.length+1
theorem wBt {l:List Ins} (hb:wB l 3=true) :∀k,wBz l (rN l (eE l) k) k
 | 0=>by
  have hl:=(cX hb).1
  refine ⟨by simp [rN,eE],fun t ht=>?_,⟨.inr (by simp [rN,eE]),fun a ha hr=>?_⟩,.inr ?_⟩
  ·simp only [rN,eE,List.mem_singleton] at ht
   subst ht
   exact ⟨by omega,by show 0<l.length; omega⟩
  ·simp only [rN,eE] at hr
   simp [wCu,ha] at hr
  ·simp only [rN,eE,tK,List.length_singleton]
   omega
 | k+1=>by
  have ih:=wBt hb k
  show wBz l (kB l (rN l (eE l) k)) (k+1)
  generalize rN l (eE l) k=q at ih
  obtain ⟨R,td⟩:=q
  obtain ⟨h1,h2,h3,h4⟩:=ih
  simp only at h1 h2 h3 h4
  cases td with
  | nil=>exact ⟨h1,h2,h3,.inl rfl⟩
  | cons a td =>
   have ha:=h2 a (by simp)
   have hc:=qWk h1 ha h3
   have hm:k+(3*iN R+(td.length+1))≤3*l.length+1:=by
    rcases h4 with e | e
    ·simp at e
    ·simpa using e
   have hl:=nC l a.toNat
   by_cases hr:R.getD a.toNat false=true
   ·have e:kB l (R,a::td)=(R,td):=by simp only [kB]; rw [if_pos hr]
    rw [e] at hc⊢
    exact ⟨h1,fun t ht=>h2 t (by simp [ht]),hc,.inr (by simp only; omega)⟩
   ·have e:kB l (R,a::td)=(R.set a.toNat true,td++yD l a.toNat):=by simp only [kB]; rw [if_neg hr]
    have hf:=nK R a.toNat (by omega) (by simpa using hr)
    rw [e] at hc⊢
    refine ⟨by simp [h1],fun t ht=>?_,hc,.inr (by simp only [wD8]; omega)⟩
    rcases List.mem_append.1 ht with ht | ht
    ·exact h2 t (by simp [ht])
    ·exact xE hb ha.2 t ht
theorem zW {l:List Ins} (hb:wB l 3=true):(dT l).length=l.length∧(dT l).getD 0 false=true∧∀a,a<l.length→(dT l).getD a false=true→∀m∈yD l a,(dT l).getD m.toNat false=true:=by
 have h:=wBt hb (3*l.length+1)
 have he:(rN l (eE l) (3*l.length+1)).2=[]:=by
  rcases h.me with e | e
  ·exact e
  ·exact List.length_eq_zero_iff.1 (by omega)
 obtain ⟨h1,_,h3,_⟩:=h
 rw [he] at h3
 refine ⟨h1,?_,fun a ha hr m hm=>?_⟩
 ·rcases h3.zero with e | e
  ·exact e
  ·simp at e
 ·rcases h3.next a ha hr m hm with e | e
  ·exact e
  ·simp at e
end Go.Sep
