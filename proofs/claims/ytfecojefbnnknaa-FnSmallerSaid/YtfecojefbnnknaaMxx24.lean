/- Contracts of functions. -/
import Derived.Test.YtfecojefbnnknaaMxx23
open List renaming append_nil → wDy
namespace Go.Sep
set_option maxHeartbeats 16000000
open Go.Proofs
set_option linter.unusedSimpArgs false
set_option linter.unusedVariables false
set_option maxRecDepth 100000
theorem qU6 {l:List Ins} {a:Nat} (h:(l.getD a default).op=11∨(l.getD a default).op=12):(l.getD a default).n∈yD l a:=by
 unfold yD
 simp only
 rw [if_neg (by omega)]
 split
 ·exact List.mem_singleton.2 rfl
 ·rw [if_pos (by omega)]
  repeat' split
  all_goals (simp only [List.mem_cons,List.not_mem_nil,or_false,or_true,true_or]; try omega)
theorem qU5 {l:List Ins} {a:Nat} (h:(l.getD a default).op≠11) (h2:(l.getD a default).op≠13):((a:Int)+1)∈yD l a:=by
 unfold yD
 simp only
 rw [if_neg h2,if_neg h]
 repeat' split
 all_goals (simp only [List.mem_cons,List.not_mem_nil,or_false,or_true,true_or]; try omega)
theorem qJ1 (l:List Ins) (n:Int) :∀k,xO l n (k+1)=xO l (qA7 l n) k
 | 0=>rfl
 | k+1=>by
  have e:=qJ1 l n k
  rw [xO] at e
  rw [xO,xO,xO,e]
theorem qJ2 {l:List Ins} {n:Int} (h:(l.getD n.toNat default).op≠11) :∀k,xO l n k=n
 | 0=>rfl
 | k+1=>by
  rw [xO,qJ2 h k]
  unfold qA7
  rw [if_neg h]
structure Pk (p:wK) (R:List Bool) (s t:qU):Prop where
 chs:t.chs=s.chs
 tr:t.tr=s.tr
 len:s.ths.length=1
 lent:t.ths.length=1
 regs:(thd t 0).regs=(thd s 0).regs
 st:(thd t 0).st=(thd s 0).st
 at_ :∃k a:Nat,xO (body p 0) (thd s 0).at_ k=(a:Int)∧a<(body p 0).length∧R.getD a false=true∧(thd t 0).at_=(plN R a:Nat)
theorem Pk.mk2 {p:wK} {R:List Bool} {s t:qU} {T U:yO} {c:List jU} {tr:List bM} (hs:s.ths.length=1) (ht:t.ths.length=1) (e1:U.regs=T.regs) (e2:U.st=T.st) (k a:Nat) (h:xO (body p 0) T.at_ k=(a:Int)) (ha:a<(body p 0).length) (hr:R.getD a false=true) (hu:U.at_=(plN R a:Nat)):Pk p R ⟨s.ths.set 0 T,c,tr⟩ ⟨t.ths.set 0 U,c,tr⟩:=by
 have h1:thd ⟨s.ths.set 0 T,c,tr⟩ 0=T:=by rw [iX _ (by omega),if_pos rfl]
 have h2:thd ⟨t.ths.set 0 U,c,tr⟩ 0=U:=by rw [iX _ (by omega),if_pos rfl]
 exact ⟨rfl,rfl,by simpa using hs,by simpa using ht,by rw [h1,h2]; exact e1,by rw [h1,h2]; exact e2,k,a,by rw [h1]; exact h,ha,hr,by rw [h2]; exact hu⟩
theorem kI {p:wK} {s:qU} {i:Nat} {t:yO} {n:Int} (h:n<((body p i).length:Int)):vG p s i t true n=⟨s.ths.set i ⟨n,t.regs,t.st⟩,s.chs,s.tr⟩:=by
 unfold vG
 rw [if_neg]
 rintro (e | e)
 ·exact absurd e (by decide)
 ·have h2:n<((p.bods.getD i []).length:Int):=h
  omega
theorem qO8 {p:wK} {s:qU} {i:Nat} {t:yO} {n:Int}:vG p s i t false n=⟨s.ths.set i ⟨t.at_,t.regs,2⟩,s.chs,s.tr⟩:=by
 unfold vG
 rw [if_pos (.inl rfl)]
theorem qAv {x:Ins} (h:x.op=11∨x.op=12) (i:Nat) (regs:List Int) (c:jU) (chs:List jU) (tr:List bM):aF x regs c=regs∧sG x regs chs=chs∧xU x regs c=true∧oC i x regs tr=tr:=by
 have hx:eV x=false:=by unfold eV; simp; omega
 refine ⟨?_,?_,?_,?_⟩
 ·unfold aF
  rw [if_neg (by omega),if_neg (by omega),hx]
  rfl
 ·unfold sG
  rw [hx]
  rfl
 ·unfold xU
  rw [hx]
  rfl
 ·unfold oC
  rw [if_neg (by omega)]
theorem qZj {p q:wK} {R:List Bool} {s t:qU} (hp:qZ p s=true) (hq:qZ q t=true) (hb:body q 0=aQ (body p 0)) (hR:R=dT (skL (body p 0))) (h:Pk p R s t) :
  Pk p R (qM p s 0).1 t∨Pk p R (qM p s 0).1 (qM q t 0).1:=by
 have h0:0<s.ths.length:=by rw [h.len]; decide
 have h0t:0<t.ths.length:=by rw [h.lent]; decide
 by_cases hc:wC p s 0=0
 case neg =>
  left
  unfold qM
  rw [if_neg hc]
  exact h
 have hA:=nY hp h0
 have hAt:=nY hq h0t
 have h3:=rA hp h0
 have hs3:=qFf h3
 obtain ⟨r1,r2,r3⟩:=zW hs3
 rw [←hR,gI] at r3
 rw [←hR,gI] at r1
 rw [←hR] at r2
 have hlen:=zD (skL (body p 0)) R (body p 0).length
 have hpk:aQ (body p 0)=pkN (skL (body p 0)) R (body p 0).length:=by
  unfold aQ
  rw [if_pos h3,←hR]
 obtain ⟨k,a,g1,g2,g3,g4⟩:=h.at_
 have e1:qM p s 0=(wH p s 0,0):=by unfold qM; rw [if_pos hc]; rfl
 rw [e1]
 have hW:=kL hp h0
 have hat0:0≤(thd s 0).at_:=hA.at0
 have hat1:(thd s 0).at_.toNat<(body p 0).length:=hA.at1
 have hx:ins p s 0=(body p 0).getD (thd s 0).at_.toNat default:=rfl
 have hop:=hA.op
 by_cases hk:(ins p s 0).op=11∧k≠0
 ·obtain ⟨h11,hk⟩:=hk
  obtain ⟨k',rfl⟩ :∃k',k=k'+1:=⟨k-1,by omega⟩
  left
  obtain ⟨j0,j1⟩:=hA.jm (.inl h11)
  have j1':(ins p s 0).n.toNat<(body p 0).length:=j1
  obtain ⟨f1,f2,f3,f4⟩:=qAv (.inl h11) 0 (thd s 0).regs (chn s (ins p s 0).n.toNat) s.chs s.tr
  have hn:aW (ins p s 0) (thd s 0).regs (thd s 0).at_=(ins p s 0).n:=by unfold aW; rw [if_pos h11]
  rw [dM hop,if_neg (by omega),f1,f2,f3,f4,hn,kI (by omega)]
  have hT:t=⟨t.ths.set 0 (thd t 0),s.chs,s.tr⟩:=by
   rw [←h.chs,←h.tr]
   show t=⟨t.ths.set 0 (t.ths.getD 0 default),t.chs,t.tr⟩
   rw [vW _ _ _ h0t]
  rw [hT]
  refine Pk.mk2 h.len h.lent h.regs h.st k' a ?_ g2 g3 g4
  rw [qJ1] at g1
  unfold qA7 at g1
  rw [←hx,if_pos h11] at g1
  exact g1
 have ha:(thd s 0).at_=a:=by
  rw [←g1]
  by_cases h11:(ins p s 0).op=11
  ·have:k=0:=by
    apply Classical.byContradiction
    exact fun e=>hk ⟨h11,e⟩
   rw [this]
   rfl
  ·exact (qJ2 (by rw [←hx]; exact h11) k).symm
 have hta:(thd s 0).at_.toNat=a:=by omega
 rw [hta] at hx
 have hsk:(skL (body p 0)).getD a default=skp (body p 0) (ins p s 0):=by rw [sT _ g2,←hx]
 have hy:ins q t 0=oA R (skp (body p 0) (ins p s 0)):=by
  show (body q 0).getD (thd t 0).at_.toNat default=_
  rw [hb,hpk,g4,Int.toNat_natCast,qPt _ g3 _ g2,hsk]
 have hqlen:(body q 0).length=plN R (body p 0).length:=by rw [hb,hpk,hlen]
 have hjump:(ins p s 0).op=11∨(ins p s 0).op=12→∃b:Nat,xO (body p 0) (ins p s 0).n (body p 0).length=(b:Int)∧b<(body p 0).length∧R.getD b false=true∧(ins q t 0).n=(plN R b:Nat):=by
  intro hj
  obtain ⟨j0,j1⟩:=hA.jm hj
  obtain ⟨k1,k2,k3⟩:=qS4 h3 (n:=(ins p s 0).n) ⟨j0,j1⟩
  have e:skp (body p 0) (ins p s 0)=⟨(ins p s 0).op,(ins p s 0).r,(ins p s 0).a,(ins p s 0).b,eR (body p 0) (ins p s 0).n⟩:=by unfold skp; rw [if_pos hj]
  have hm:=qU6 (l:=skL (body p 0)) (a:=a) (by rw [hsk,lE]; exact hj)
  have hr:=r3 a g2 g3 _ hm
  rw [hsk,e] at hr
  refine ⟨(eR (body p 0) (ins p s 0).n).toNat,by rw [←k1]; omega,k3,hr,?_⟩
  rw [hy,e]
  unfold oA
  rw [if_pos hj]
 have hsucc:(ins p s 0).op≠11→(ins p s 0).op≠13→R.getD (a+1) false=true:=by
  intro n1 n2
  have hm:=qU5 (l:=skL (body p 0)) (a:=a) (by rw [hsk,lE]; exact n1) (by rw [hsk,lE]; exact n2)
  have hr:=r3 a g2 g3 _ hm
  rwa [show ((a:Int)+1).toNat=a+1 by omega] at hr
 have hyo:(ins q t 0).op=(ins p s 0).op:=by
  rw [hy]
  unfold oA
  split<;>simp only [lE]
 have hya:(ins q t 0).a=(ins p s 0).a:=by
  rw [hy]
  unfold oA skp
  repeat' split
  all_goals rfl
 have hcode:wC q t 0=0:=by
  by_cases hj:(ins p s 0).op=11∨(ins p s 0).op=12
  ·have hst:(thd s 0).st=0:=by
    unfold wC at hc
    apply Classical.byContradiction
    intro hne
    have hne' :¬(s.ths.getD (0:Int).toNat default).st=0:=hne
    have hw:qR 0 0 ((s.ths.length:Int)-1)=true:=by rw [h.len]; rfl
    rw [hw,if_neg (by simp),if_pos (.inl hne')] at hc
    exact absurd hc (by decide)
   unfold wC
   have hw:qR 0 0 ((t.ths.length:Int)-1)=true:=by rw [h.lent]; rfl
   have e3:(t.ths.getD (0:Int).toNat default).st=0:=by
    have:(thd t 0).st=0:=by rw [h.st]; exact hst
    exact this
   have hy0:(ins q t (0:Int).toNat).op=(ins p s 0).op:=hyo
   rw [hw,if_neg (by simp),if_neg (by rw [hy0,e3]; omega),if_pos (by rw [hy0]; omega)]
  ·have e:ins q t 0=ins p s 0:=by
    rw [hy]
    unfold oA
    rw [if_neg (by rw [lE]; exact hj)]
    unfold skp
    rw [if_neg hj]
   have hst2:(t.ths.getD (0:Int).toNat default).st=(s.ths.getD (0:Int).toNat default).st:=h.st
   have he2:ins q t (0:Int).toNat=ins p s (0:Int).toNat:=e
   unfold wC at hc⊢
   rw [he2,hst2,h.chs,h.tr,h.lent]
   rw [h.len] at hc
   exact hc
 right
 have e2:qM q t 0=(wH q t 0,0):=by unfold qM; rw [if_pos hcode]; rfl
 rw [e2]
 show Pk p R (wH p s 0) (wH q t 0)
 rw [dM (hAt.op)]
 have hjm:=hA.jm
 by_cases hj:(ins p s 0).op=11∨(ins p s 0).op=12
 ·obtain ⟨b,b1,b2,b3,b4⟩:=hjump hj
  have hlt:=qCa b3 b2
  obtain ⟨f1,f2,f3,f4⟩:=qAv hj 0 (thd s 0).regs (chn s (ins p s 0).n.toNat) s.chs s.tr
  obtain ⟨i1,i2,i3,i4⟩:=qAv (x:=ins q t 0) (by rw [hyo]; exact hj) 0 (thd t 0).regs (chn t (ins q t 0).n.toNat) t.chs t.tr
  obtain ⟨j0,j1⟩:=hjm hj
  have j1':(ins p s 0).n.toNat<(body p 0).length:=j1
  rw [dM hop,if_neg (by omega),if_neg (by omega),f1,f2,f3,f4,i1,i2,i3,i4,h.chs,h.tr]
  by_cases hz:(ins p s 0).op=11∨(thd s 0).regs.getD (ins p s 0).a.toNat 0=0
  ·have n1:aW (ins p s 0) (thd s 0).regs (thd s 0).at_=(ins p s 0).n:=by
    unfold aW
    split
    ·rfl
    ·rw [if_pos (by omega),if_pos (by omega)]
   have n2:aW (ins q t 0) (thd t 0).regs (thd t 0).at_=(plN R b:Nat):=by
    rw [←b4]
    unfold aW
    rw [hyo,hya,h.regs]
    split
    ·rfl
    ·rw [if_pos (by omega),if_pos (by omega)]
   rw [n1,n2,kI (by omega),kI (by omega)]
   exact Pk.mk2 h.len h.lent h.regs h.st _ b b1 b2 b3 rfl
  ·have h12:(ins p s 0).op=12:=by omega
   have hs1:=hsucc (by omega) (by omega)
   have hps:=qAi g3
   have ha1:a+1<(body p 0).length:=by
    have hb2:=h3
    unfold wB dZ at hb2
    simp only [Bool.and_eq_true,Bool.or_eq_true,decide_eq_true_eq] at hb2
    rcases Nat.lt_or_ge (a+1) (body p 0).length with hh | hh
    ·exact hh
    ·exfalso
     have e:(body p 0).length-1=a:=by omega
     have hl:=hb2.2
     rw [e,←hx] at hl
     omega
   have hlt2:=qCa hs1 ha1
   have n1:aW (ins p s 0) (thd s 0).regs (thd s 0).at_=((a+1:Nat):Int):=by
    unfold aW
    rw [if_neg (by omega),if_pos h12,if_neg (by omega),ha]
    push_cast
    rfl
   have n2:aW (ins q t 0) (thd t 0).regs (thd t 0).at_=(plN R (a+1):Nat):=by
    unfold aW
    rw [hyo,hya,h.regs,if_neg (by omega),if_pos h12,if_neg (by omega),g4,hps]
    push_cast
    rfl
   rw [n1,n2,kI (by omega),kI (by omega)]
   exact Pk.mk2 h.len h.lent h.regs h.st 0 (a+1) rfl ha1 hs1 rfl
 ·have e:ins q t 0=ins p s 0:=by
   rw [hy]
   unfold oA
   rw [if_neg (by rw [lE]; exact hj)]
   unfold skp
   rw [if_neg hj]
  have ec:chn t (ins p s 0).n.toNat=chn s (ins p s 0).n.toNat:=by unfold chn; rw [h.chs]
  rw [e,ec,h.regs,h.chs,h.tr]
  revert hW
  generalize wH p s 0=S'
  intro hW
  cases hW with
  | ended h13 =>
   rw [if_pos h13]
   exact Pk.mk2 h.len h.lent rfl rfl 0 a (by exact ha) g2 g3 (by exact g4)
  | fault hf =>
   rw [if_neg (by
    intro h13
    have hx13:eV (ins p s 0)=false:=by unfold eV; simp; omega
    unfold xU at hf
    rw [hx13] at hf
    simp at hf),hf,qO8]
   exact Pk.mk2 h.len h.lent rfl rfl 0 a (by exact ha) g2 g3 (by exact g4)
  | next n hok h13 hn hl hm =>
   have hs1:=hsucc (by omega) h13
   have hps:=qAi g3
   have hn2:n=a+1:=by
    unfold aW at hn
    rw [if_neg (by omega),if_neg (by omega)] at hn
    omega
   subst hn2
   have hlt2:=qCa hs1 hl
   have n2:aW (ins p s 0) (thd s 0).regs (thd t 0).at_=(plN R (a+1):Nat):=by
    unfold aW
    rw [if_neg (by omega),if_neg (by omega),g4,hps]
    push_cast
    rfl
   rw [if_neg h13,hok,n2,kI (by omega)]
   exact Pk.mk2 h.len h.lent rfl (by exact h.st) 0 (a+1) rfl hl hs1 rfl
def xG (p:wK) (n:Nat):qU:=lT p (wE p).1 (List.replicate n 0)
theorem hO (p:wK) (n:Nat):xG p (n+1)=(qM p (xG p n) 0).1:=by
 unfold xG
 rw [List.replicate_succ',qD8]
 rfl
theorem rQ {p:wK} (h:wY p=true) :∀n,qZ p (xG p n)=true
 | 0=>bQ h
 | n+1=>by
  rw [hO]
  exact gF 0 (rQ h n)
def Beh (p q:wK):Prop :=∀n,∃m,m≤n∧(xG q m).tr=(xG p n).tr∧(thd (xG q m) 0).st=(thd (xG p n) 0).st
theorem Beh.refl (p:wK):Beh p p:=fun n=>⟨n,Nat.le_refl _,rfl,rfl⟩
theorem Beh.trans {p q r:wK} (h:Beh p q) (k:Beh q r):Beh p r:=by
 intro n
 obtain ⟨m,h1,h2,h3⟩:=h n
 obtain ⟨m',k1,k2,k3⟩:=k m
 exact ⟨m',by omega,by rw [k2,h2],by rw [k3,h3]⟩
theorem qUy {p:wK} {s:qU} {i:Nat} (h:qZ p s=true) (hi:i<s.ths.length) :∃e,(wH p s i).tr=s.tr++e:=by
 have ht :∀x regs,∃e,oC i x regs s.tr=s.tr++e:=by
  intro x regs
  unfold oC
  split
  ·exact ⟨_,rfl⟩
  ·exact ⟨[],(wDy _).symm⟩
 have hW:=kL h hi
 revert hW
 generalize wH p s i=S'
 intro hW
 cases hW with
 | ended _=>exact ⟨[],(wDy _).symm⟩
 | fault _=>exact ht _ _
 | next _ _ _ _ _ _=>exact ht _ _
theorem qZ6 {p:wK} {s:qU} (h:qZ p s=true) (who:Int) :∃e,(qM p s who).1.tr=s.tr++e:=by
 unfold qM
 split
 ·rename_i hc
  exact qUy h (qBe hc).2
 ·exact ⟨[],(wDy _).symm⟩
theorem qSh {p:wK} (h:wY p=true) (m:Nat) :∀d,∃e,(xG p (m+d)).tr=(xG p m).tr++e
 | 0=>⟨[],(wDy _).symm⟩
 | d+1=>by
  obtain ⟨e,he⟩:=qSh h m d
  obtain ⟨f,hf⟩:=qZ6 (rQ h (m+d)) 0
  rw [←Nat.add_assoc,hO,hf,he]
  exact ⟨e++f,List.append_assoc _ _ _⟩
theorem qKz {p:wK} {s:qU} (h:(thd s 0).st≠0):(qM p s 0).1=s:=by
 unfold qM
 rw [if_neg]
 unfold wC
 split
 ·decide
 ·rw [if_pos (.inl h)]
  decide
theorem qAq {p:wK} {m:Nat} (h:(thd (xG p m) 0).st≠0) :∀d,xG p (m+d)=xG p m
 | 0=>rfl
 | d+1=>by
  have e:=qAq h d
  rw [←Nat.add_assoc,hO,e,qKz h]
theorem Beh.law {p q:wK} (hq:wY q=true) (h:Beh p q) (n:Nat):(xG p n).tr.length≤(xG q n).tr.length∧(xG q n).tr.take (xG p n).tr.length=(xG p n).tr∧
  ((thd (xG p n) 0).st=0∨(xG p n).tr=(xG q n).tr∧(thd (xG p n) 0).st=(thd (xG q n) 0).st):=by
 obtain ⟨m,h1,h2,h3⟩:=h n
 obtain ⟨d,rfl⟩ :∃d,n=m+d:=⟨n-m,by omega⟩
 obtain ⟨e,he⟩:=qSh hq m d
 rw [he,←h2]
 refine ⟨by simp,by simp,?_⟩
 by_cases hz:(thd (xG p (m+d)) 0).st=0
 ·exact .inl hz
 ·right
  have hs:=qAq (p:=q) (m:=m) (by rw [h3]; exact hz) d
  rw [hs] at he
  rw [hs]
  exact ⟨he,h3.symm⟩
def bB (p:wK):wK:=if wY p then ⟨p.caps,p.bods.map aQ⟩ else p
theorem cJ {p:wK} (h:wY p=true):bB p=⟨p.caps,p.bods.map aQ⟩:=by simp [bB,h]
theorem qDd {p:wK} (h:wY p=true):wY (bB p)=true:=by
 rw [cJ h]
 unfold wY at h⊢
 simp only [Bool.and_eq_true,List.all_eq_true,List.length_map] at h⊢
 obtain ⟨⟨⟨h1,h2⟩,h3⟩,h4⟩:=h
 refine ⟨⟨⟨fun b hb=>?_,h2⟩,h3⟩,h4⟩
 obtain ⟨b',hb',rfl⟩:=List.mem_map.1 hb
 exact qWo (h1 b' hb')
theorem qWn {p:wK} (h:wY p=true) (h1:p.bods.length=1):Beh p (bB p):=by
 have hq:=qDd h
 have hb:body (bB p) 0=aQ (body p 0):=by
  rw [cJ h]
  unfold body
  simp [List.getD_eq_getElem?_getD,h1]
 have key :∀n,∃m,m≤n∧Pk p (dT (skL (body p 0))) (xG p n) (xG (bB p) m):=by
  intro n
  induction n with
  | zero =>
   refine ⟨0,Nat.le_refl _,?_⟩
   have hok:=bQ h
   have e1:(wE p).1.ths=[zC]:=by unfold wE; rw [if_pos h,h1]; rfl
   have e2:(wE (bB p)).1.ths=[zC]:=by
    unfold wE
    rw [if_pos hq,cJ h]
    simp [h1]
   have h3:=rA hok (i:=0) (by rw [e1]; decide)
   have hs3:=qFf h3
   obtain ⟨r1,r2,r3⟩:=zW hs3
   refine ⟨?_,?_,by show (wE p).1.ths.length=1; rw [e1]; rfl,by show (wE (bB p)).1.ths.length=1; rw [e2]; rfl,?_,?_,0,0,?_,?_,r2,?_⟩
   ·show (wE (bB p)).1.chs=(wE p).1.chs
    unfold wE
    rw [if_pos h,if_pos hq,cJ h]
   ·show (wE (bB p)).1.tr=(wE p).1.tr
    unfold wE
    rw [if_pos h,if_pos hq]
   ·show ((wE (bB p)).1.ths.getD 0 default).regs=((wE p).1.ths.getD 0 default).regs
    rw [e1,e2]
   ·show ((wE (bB p)).1.ths.getD 0 default).st=((wE p).1.ths.getD 0 default).st
    rw [e1,e2]
   ·show ((wE p).1.ths.getD 0 default).at_=_
    rw [e1]
    rfl
   ·unfold wB at h3
    simp only [Bool.and_eq_true,qK] at h3
    omega
   ·show ((wE (bB p)).1.ths.getD 0 default).at_=_
    rw [e2]
    rfl
  | succ n ih =>
   obtain ⟨m,hm,hk⟩:=ih
   have:=qZj (rQ h n) (rQ hq m) hb rfl hk
   rw [←hO,←hO] at this
   rcases this with hh | hh
   ·exact ⟨m,by omega,hh⟩
   ·exact ⟨m+1,by omega,hh⟩
 intro n
 obtain ⟨m,hm,hk⟩:=key n
 exact ⟨m,hm,hk.tr,hk.st⟩
theorem qGv {p:wK} (h1:p.bods.length=1) :∀n,(aE p (wE p).1 n).1=xG p n
 | 0=>rfl
 | n+1=>by
  rw [aE,h1,hO,←qGv h1 n]
  rfl
theorem qJz {p:wK} (h:wY p=true) (h1:p.bods.length=1) {n:Nat} (hn:n<200):(qGw p (wE p).1 n).1=xG p n:=by
 unfold qGw
 rw [if_pos (bQ h),if_pos (by omega),Int.toNat_natCast,qGv h1]
end Go.Sep
