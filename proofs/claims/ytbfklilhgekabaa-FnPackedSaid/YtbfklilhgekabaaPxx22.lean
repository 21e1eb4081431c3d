/- Contracts of functions. -/
import Derived.Test.YtbfklilhgekabaaPxx21
open List renaming append_nil → qYg
namespace Go.Sep
set_option maxHeartbeats 16000000
open Go.Proofs
set_option linter.unusedSimpArgs false
set_option linter.unusedVariables false
set_option maxRecDepth 100000
theorem qPy {l:List Ins} {a:Nat} (h:(l.getD a default).op=11∨(l.getD a default).op=12):(l.getD a default).n∈vN l a:=by
 unfold vN
 simp only
 rw [if_neg (by omega)]
 split
 ·exact List.mem_singleton.2 rfl
 ·rw [if_pos (by omega)]
  repeat' split
  all_goals (simp only [List.mem_cons,List.not_mem_nil,or_false,or_true,true_or]; try omega)
theorem qPx {l:List Ins} {a:Nat} (h:(l.getD a default).op≠11) (h2:(l.getD a default).op≠13):((a:Int)+1)∈vN l a:=by
 unfold vN
 simp only
 rw [if_neg h2,if_neg h]
 repeat' split
 all_goals (simp only [List.mem_cons,List.not_mem_nil,or_false,or_true,true_or]; try omega)
theorem qFy (l:List Ins) (n:Int) :∀k,zC l n (k+1)=zC l (rQ l n) k
 | 0=>rfl
 | k+1=>by
  have e:=qFy l n k
  rw [zC] at e
  rw [zC,zC,zC,e]
theorem qFz {l:List Ins} {n:Int} (h:(l.getD n.toNat default).op≠11) :∀k,zC l n k=n
 | 0=>rfl
 | k+1=>by
  rw [zC,qFz h k]
  unfold rQ
  rw [if_neg h]
structure Pk (p:wJ) (R:List Bool) (s t:qR):Prop where
 chs:t.chs=s.chs
 tr:t.tr=s.tr
 len:s.ths.length=1
 lent:t.ths.length=1
 regs:(thd t 0).regs=(thd s 0).regs
 st:(thd t 0).st=(thd s 0).st
 at_ :∃k a:Nat,zC (body p 0) (thd s 0).at_ k=(a:Int)∧a<(body p 0).length∧R.getD a false=true∧(thd t 0).at_=(plN R a:Nat)
theorem Pk.mk2 {p:wJ} {R:List Bool} {s t:qR} {T U:yH} {c:List jP} {tr:List bB} (hs:s.ths.length=1) (ht:t.ths.length=1) (e1:U.regs=T.regs) (e2:U.st=T.st) (k a:Nat) (h:zC (body p 0) T.at_ k=(a:Int)) (ha:a<(body p 0).length) (hr:R.getD a false=true) (hu:U.at_=(plN R a:Nat)):Pk p R ⟨s.ths.set 0 T,c,tr⟩ ⟨t.ths.set 0 U,c,tr⟩:=by
 have h1:thd ⟨s.ths.set 0 T,c,tr⟩ 0=T:=by rw [nV _ (by omega),if_pos rfl]
 have h2:thd ⟨t.ths.set 0 U,c,tr⟩ 0=U:=by rw [nV _ (by omega),if_pos rfl]
 exact ⟨rfl,rfl,by simpa using hs,by simpa using ht,by rw [h1,h2]; exact e1,by rw [h1,h2]; exact e2,k,a,by rw [h1]; exact h,ha,hr,by rw [h2]; exact hu⟩
theorem oL {p:wJ} {s:qR} {i:Nat} {t:yH} {n:Int} (h:n<((body p i).length:Int)):vF p s i t true n=⟨s.ths.set i ⟨n,t.regs,t.st⟩,s.chs,s.tr⟩:=by
 unfold vF
 rw [if_neg]
 rintro (e | e)
 ·exact absurd e (by decide)
 ·have h2:n<((p.bods.getD i []).length:Int):=h
  omega
theorem qT0 {p:wJ} {s:qR} {i:Nat} {t:yH} {n:Int}:vF p s i t false n=⟨s.ths.set i ⟨t.at_,t.regs,2⟩,s.chs,s.tr⟩:=by
 unfold vF
 rw [if_pos (.inl rfl)]
theorem qDr {x:Ins} (h:x.op=11∨x.op=12) (i:Nat) (regs:List Int) (c:jP) (chs:List jP) (tr:List bB):qBz x regs c=regs∧qQk x regs chs=chs∧pB x regs c=true∧qKp i x regs tr=tr:=by
 have hx:sM x=false:=by unfold sM; simp; omega
 refine ⟨?_,?_,?_,?_⟩
 ·unfold qBz
  rw [if_neg (by omega),if_neg (by omega),hx]
  rfl
 ·unfold qQk
  rw [hx]
  rfl
 ·unfold pB
  rw [hx]
  rfl
 ·unfold qKp
  rw [if_neg (by omega)]
theorem qUm {p q:wJ} {R:List Bool} {s t:qR} (hp:qW p s=true) (hq:qW q t=true) (hb:body q 0=cJ (body p 0)) (hR:R=dV (skL (body p 0))) (h:Pk p R s t) :
  Pk p R (qQ p s 0).1 t∨Pk p R (qQ p s 0).1 (qQ q t 0).1:=by
 have h0:0<s.ths.length:=by rw [h.len]; decide
 have h0t:0<t.ths.length:=by rw [h.lent]; decide
 by_cases hc:wQ p s 0=0
 case neg =>
  left
  unfold qQ
  rw [if_neg hc]
  exact h
 have hA:=tK hp h0
 have hAt:=tK hq h0t
 have h3:=qEi hp h0
 have hs3:=qCt h3
 obtain ⟨r1,r2,r3⟩:=xR hs3
 rw [←hR,bQ] at r3
 rw [←hR,bQ] at r1
 rw [←hR] at r2
 have hlen:=dP (skL (body p 0)) R (body p 0).length
 have hpk:cJ (body p 0)=pkN (skL (body p 0)) R (body p 0).length:=by
  unfold cJ
  rw [if_pos h3,←hR]
 obtain ⟨k,a,g1,g2,g3,g4⟩:=h.at_
 have e1:qQ p s 0=(wD p s 0,0):=by unfold qQ; rw [if_pos hc]; rfl
 rw [e1]
 have hW:=nE hp h0
 have hat0:0≤(thd s 0).at_:=hA.at0
 have hat1:(thd s 0).at_.toNat<(body p 0).length:=hA.at1
 have hx:ins p s 0=(body p 0).getD (thd s 0).at_.toNat default:=rfl
 have hop:=hA.op
 by_cases hk:(ins p s 0).op=11∧k≠0
 ·obtain ⟨h11,hk⟩:=hk
  obtain ⟨k',rfl⟩ :∃k',k=k'+1:=⟨k-1,by omega⟩
  left
  obtain ⟨j0,j1⟩:=hA.jm (.inl h11)
  have j1':(ins p s 0).n.toNat<(body p 0).length:=j1
  obtain ⟨f1,f2,f3,f4⟩:=qDr (.inl h11) 0 (thd s 0).regs (chn s (ins p s 0).n.toNat) s.chs s.tr
  have hn:lQ (ins p s 0) (thd s 0).regs (thd s 0).at_=(ins p s 0).n:=by unfold lQ; rw [if_pos h11]
  rw [kZ hop,if_neg (by omega),f1,f2,f3,f4,hn,oL (by omega)]
  have hT:t=⟨t.ths.set 0 (thd t 0),s.chs,s.tr⟩:=by
   rw [←h.chs,←h.tr]
   show t=⟨t.ths.set 0 (t.ths.getD 0 default),t.chs,t.tr⟩
   rw [zK _ _ _ h0t]
  rw [hT]
  refine Pk.mk2 h.len h.lent h.regs h.st k' a ?_ g2 g3 g4
  rw [qFy] at g1
  unfold rQ at g1
  rw [←hx,if_pos h11] at g1
  exact g1
 have ha:(thd s 0).at_=a:=by
  rw [←g1]
  by_cases h11:(ins p s 0).op=11
  ·have:k=0:=by
    apply Classical.byContradiction
    exact fun e=>hk ⟨h11,e⟩
   rw [this]
   rfl
  ·exact (qFz (by rw [←hx]; exact h11) k).symm
 have hta:(thd s 0).at_.toNat=a:=by omega
 rw [hta] at hx
 have hsk:(skL (body p 0)).getD a default=skp (body p 0) (ins p s 0):=by rw [pI _ g2,←hx]
 have hy:ins q t 0=lO R (skp (body p 0) (ins p s 0)):=by
  show (body q 0).getD (thd t 0).at_.toNat default=_
  rw [hb,hpk,g4,Int.toNat_natCast,qM3 _ g3 _ g2,hsk]
 have hqlen:(body q 0).length=plN R (body p 0).length:=by rw [hb,hpk,hlen]
 have hjump:(ins p s 0).op=11∨(ins p s 0).op=12→∃b:Nat,zC (body p 0) (ins p s 0).n (body p 0).length=(b:Int)∧b<(body p 0).length∧R.getD b false=true∧(ins q t 0).n=(plN R b:Nat):=by
  intro hj
  obtain ⟨j0,j1⟩:=hA.jm hj
  obtain ⟨k1,k2,k3⟩:=qO7 h3 (n:=(ins p s 0).n) ⟨j0,j1⟩
  have e:skp (body p 0) (ins p s 0)=⟨(ins p s 0).op,(ins p s 0).r,(ins p s 0).a,(ins p s 0).b,aI (body p 0) (ins p s 0).n⟩:=by unfold skp; rw [if_pos hj]
  have hm:=qPy (l:=skL (body p 0)) (a:=a) (by rw [hsk,fY]; exact hj)
  have hr:=r3 a g2 g3 _ hm
  rw [hsk,e] at hr
  refine ⟨(aI (body p 0) (ins p s 0).n).toNat,by rw [←k1]; omega,k3,hr,?_⟩
  rw [hy,e]
  unfold lO
  rw [if_pos hj]
 have hsucc:(ins p s 0).op≠11→(ins p s 0).op≠13→R.getD (a+1) false=true:=by
  intro n1 n2
  have hm:=qPx (l:=skL (body p 0)) (a:=a) (by rw [hsk,fY]; exact n1) (by rw [hsk,fY]; exact n2)
  have hr:=r3 a g2 g3 _ hm
  rwa [show ((a:Int)+1).toNat=a+1 by omega] at hr
 have hyo:(ins q t 0).op=(ins p s 0).op:=by
  rw [hy]
  unfold lO
  split<;>simp only [fY]
 have hya:(ins q t 0).a=(ins p s 0).a:=by
  rw [hy]
  unfold lO skp
  repeat' split
  all_goals rfl
 have hcode:wQ q t 0=0:=by
  by_cases hj:(ins p s 0).op=11∨(ins p s 0).op=12
  ·have hst:(thd s 0).st=0:=by
    unfold wQ at hc
    apply Classical.byContradiction
    intro hne
    have hne' :¬(s.ths.getD (0:Int).toNat default).st=0:=hne
    have hw:qS 0 0 ((s.ths.length:Int)-1)=true:=by rw [h.len]; rfl
    rw [hw,if_neg (by simp),if_pos (.inl hne')] at hc
    exact absurd hc (by decide)
   unfold wQ
   have hw:qS 0 0 ((t.ths.length:Int)-1)=true:=by rw [h.lent]; rfl
   have e3:(t.ths.getD (0:Int).toNat default).st=0:=by
    have:(thd t 0).st=0:=by rw [h.st]; exact hst
    exact this
   have hy0:(ins q t (0:Int).toNat).op=(ins p s 0).op:=hyo
   rw [hw,if_neg (by simp),if_neg (by rw [hy0,e3]; omega),if_pos (by rw [hy0]; omega)]
  ·have e:ins q t 0=ins p s 0:=by
    rw [hy]
    unfold lO
    rw [if_neg (by rw [fY]; exact hj)]
    unfold skp
    rw [if_neg hj]
   have hst2:(t.ths.getD (0:Int).toNat default).st=(s.ths.getD (0:Int).toNat default).st:=h.st
   have he2:ins q t (0:Int).toNat=ins p s (0:Int).toNat:=e
   unfold wQ at hc⊢
   rw [he2,hst2,h.chs,h.tr,h.lent]
   rw [h.len] at hc
   exact hc
 right
 have e2:qQ q t 0=(wD q t 0,0):=by unfold qQ; rw [if_pos hcode]; rfl
 rw [e2]
 show Pk p R (wD p s 0) (wD q t 0)
 rw [kZ (hAt.op)]
 have hjm:=hA.jm
 by_cases hj:(ins p s 0).op=11∨(ins p s 0).op=12
 ·obtain ⟨b,b1,b2,b3,b4⟩:=hjump hj
  have hlt:=qA7 b3 b2
  obtain ⟨f1,f2,f3,f4⟩:=qDr hj 0 (thd s 0).regs (chn s (ins p s 0).n.toNat) s.chs s.tr
  obtain ⟨i1,i2,i3,i4⟩:=qDr (x:=ins q t 0) (by rw [hyo]; exact hj) 0 (thd t 0).regs (chn t (ins q t 0).n.toNat) t.chs t.tr
  obtain ⟨j0,j1⟩:=hjm hj
  have j1':(ins p s 0).n.toNat<(body p 0).length:=j1
  rw [kZ hop,if_neg (by omega),if_neg (by omega),f1,f2,f3,f4,i1,i2,i3,i4,h.chs,h.tr]
  by_cases hz:(ins p s 0).op=11∨(thd s 0).regs.getD (ins p s 0).a.toNat 0=0
  ·have n1:lQ (ins p s 0) (thd s 0).regs (thd s 0).at_=(ins p s 0).n:=by
    unfold lQ
    split
    ·rfl
    ·rw [if_pos (by omega),if_pos (by omega)]
   have n2:lQ (ins q t 0) (thd t 0).regs (thd t 0).at_=(plN R b:Nat):=by
    rw [←b4]
    unfold lQ
    rw [hyo,hya,h.regs]
    split
    ·rfl
    ·rw [if_pos (by omega),if_pos (by omega)]
   rw [n1,n2,oL (by omega),oL (by omega)]
   exact Pk.mk2 h.len h.lent h.regs h.st _ b b1 b2 b3 rfl
  ·have h12:(ins p s 0).op=12:=by omega
   have hs1:=hsucc (by omega) (by omega)
   have hps:=sA g3
   have ha1:a+1<(body p 0).length:=by
    have hb2:=h3
    unfold wN dS at hb2
    simp only [Bool.and_eq_true,Bool.or_eq_true,decide_eq_true_eq] at hb2
    rcases Nat.lt_or_ge (a+1) (body p 0).length with hh | hh
    ·exact hh
    ·exfalso
     have e:(body p 0).length-1=a:=by omega
     have hl:=hb2.2
     rw [e,←hx] at hl
     omega
   have hlt2:=qA7 hs1 ha1
   have n1:lQ (ins p s 0) (thd s 0).regs (thd s 0).at_=((a+1:Nat):Int):=by
    unfold lQ
    rw [if_neg (by omega),if_pos h12,if_neg (by omega),ha]
    push_cast
    rfl
   have n2:lQ (ins q t 0) (thd t 0).regs (thd t 0).at_=(plN R (a+1):Nat):=by
    unfold lQ
    rw [hyo,hya,h.regs,if_neg (by omega),if_pos h12,if_neg (by omega),g4,hps]
    push_cast
    rfl
   rw [n1,n2,oL (by omega),oL (by omega)]
   exact Pk.mk2 h.len h.lent h.regs h.st 0 (a+1) rfl ha1 hs1 rfl
 ·have e:ins q t 0=ins p s 0:=by
   rw [hy]
   unfold lO
   rw [if_neg (by rw [fY]; exact hj)]
   unfold skp
   rw [if_neg hj]
  have ec:chn t (ins p s 0).n.toNat=chn s (ins p s 0).n.toNat:=by unfold chn; rw [h.chs]
  rw [e,ec,h.regs,h.chs,h.tr]
  revert hW
  generalize wD p s 0=S'
  intro hW
  cases hW with
  | ended h13 =>
   rw [if_pos h13]
   exact Pk.mk2 h.len h.lent rfl rfl 0 a (by exact ha) g2 g3 (by exact g4)
  | fault hf =>
   rw [if_neg (by
    intro h13
    have hx13:sM (ins p s 0)=false:=by unfold sM; simp; omega
    unfold pB at hf
    rw [hx13] at hf
    simp at hf),hf,qT0]
   exact Pk.mk2 h.len h.lent rfl rfl 0 a (by exact ha) g2 g3 (by exact g4)
  | next n hok h13 hn hl hm =>
   have hs1:=hsucc (by omega) h13
   have hps:=sA g3
   have hn2:n=a+1:=by
    unfold lQ at hn
    rw [if_neg (by omega),if_neg (by omega)] at hn
    omega
   subst hn2
   have hlt2:=qA7 hs1 hl
   have n2:lQ (ins p s 0) (thd s 0).regs (thd t 0).at_=(plN R (a+1):Nat):=by
    unfold lQ
    rw [if_neg (by omega),if_neg (by omega),g4,hps]
    push_cast
    rfl
   rw [if_neg h13,hok,n2,oL (by omega)]
   exact Pk.mk2 h.len h.lent rfl (by exact h.st) 0 (a+1) rfl hl hs1 rfl
def zO (p:wJ) (n:Nat):qR:=qPb p (wP p).1 (List.replicate n 0)
theorem cA (p:wJ) (n:Nat):zO p (n+1)=(qQ p (zO p n) 0).1:=by
 unfold zO
 rw [List.replicate_succ',qB2]
 rfl
theorem oD {p:wJ} (h:jB p=true) :∀n,qW p (zO p n)=true
 | 0=>xK h
 | n+1=>by
  rw [cA]
  exact aG 0 (oD h n)
def Beh (p q:wJ):Prop :=∀n,∃m,m≤n∧(zO q m).tr=(zO p n).tr∧(thd (zO q m) 0).st=(thd (zO p n) 0).st
theorem Beh.refl (p:wJ):Beh p p:=fun n=>⟨n,Nat.le_refl _,rfl,rfl⟩
theorem Beh.trans {p q r:wJ} (h:Beh p q) (k:Beh q r):Beh p r:=by
 intro n
 obtain ⟨m,h1,h2,h3⟩:=h n
 obtain ⟨m',k1,k2,k3⟩:=k m
 exact ⟨m',by omega,by rw [k2,h2],by rw [k3,h3]⟩
theorem qQm {p:wJ} {s:qR} {i:Nat} (h:qW p s=true) (hi:i<s.ths.length) :∃e,(wD p s i).tr=s.tr++e:=by
 have ht :∀x regs,∃e,qKp i x regs s.tr=s.tr++e:=by
  intro x regs
  unfold qKp
  split
  ·exact ⟨_,rfl⟩
  ·exact ⟨[],(qYg _).symm⟩
 have hW:=nE h hi
 revert hW
 generalize wD p s i=S'
 intro hW
 cases hW with
 | ended _=>exact ⟨[],(qYg _).symm⟩
 | fault _=>exact ht _ _
 | next _ _ _ _ _ _=>exact ht _ _
theorem qUc {p:wJ} {s:qR} (h:qW p s=true) (who:Int) :∃e,(qQ p s who).1.tr=s.tr++e:=by
 unfold qQ
 split
 ·rename_i hc
  exact qQm h (tD hc).2
 ·exact ⟨[],(qYg _).symm⟩
theorem qOl {p:wJ} (h:jB p=true) (m:Nat) :∀d,∃e,(zO p (m+d)).tr=(zO p m).tr++e
 | 0=>⟨[],(qYg _).symm⟩
 | d+1=>by
  obtain ⟨e,he⟩:=qOl h m d
  obtain ⟨f,hf⟩:=qUc (oD h (m+d)) 0
  rw [←Nat.add_assoc,cA,hf,he]
  exact ⟨e++f,List.append_assoc _ _ _⟩
theorem qHo {p:wJ} {s:qR} (h:(thd s 0).st≠0):(qQ p s 0).1=s:=by
 unfold qQ
 rw [if_neg]
 unfold wQ
 split
 ·decide
 ·rw [if_pos (.inl h)]
  decide
theorem sH {p:wJ} {m:Nat} (h:(thd (zO p m) 0).st≠0) :∀d,zO p (m+d)=zO p m
 | 0=>rfl
 | d+1=>by
  have e:=sH h d
  rw [←Nat.add_assoc,cA,e,qHo h]
theorem Beh.law {p q:wJ} (hq:jB q=true) (h:Beh p q) (n:Nat):(zO p n).tr.length≤(zO q n).tr.length∧(zO q n).tr.take (zO p n).tr.length=(zO p n).tr∧
  ((thd (zO p n) 0).st=0∨(zO p n).tr=(zO q n).tr∧(thd (zO p n) 0).st=(thd (zO q n) 0).st):=by
 obtain ⟨m,h1,h2,h3⟩:=h n
 obtain ⟨d,rfl⟩ :∃d,n=m+d:=⟨n-m,by omega⟩
 obtain ⟨e,he⟩:=qOl hq m d
 rw [he,←h2]
 refine ⟨by simp,by simp,?_⟩
 by_cases hz:(thd (zO p (m+d)) 0).st=0
 ·exact .inl hz
 ·right
  have hs:=sH (p:=q) (m:=m) (by rw [h3]; exact hz) d
  rw [hs] at he
  rw [hs]
  exact ⟨he,h3.symm⟩
def uN (p:wJ):wJ:=if jB p then ⟨p.caps,p.bods.map cJ⟩ else p
theorem aY {p:wJ} (h:jB p=true):uN p=⟨p.caps,p.bods.map cJ⟩:=by simp [uN,h]
theorem qB6 {p:wJ} (h:jB p=true):jB (uN p)=true:=by
 rw [aY h]
 unfold jB at h⊢
 simp only [Bool.and_eq_true,List.all_eq_true,List.length_map] at h⊢
 obtain ⟨⟨⟨h1,h2⟩,h3⟩,h4⟩:=h
 refine ⟨⟨⟨fun b hb=>?_,h2⟩,h3⟩,h4⟩
 obtain ⟨b',hb',rfl⟩:=List.mem_map.1 hb
 exact qS3 (h1 b' hb')
theorem qS2 {p:wJ} (h:jB p=true) (h1:p.bods.length=1):Beh p (uN p):=by
 have hq:=qB6 h
 have hb:body (uN p) 0=cJ (body p 0):=by
  rw [aY h]
  unfold body
  simp [List.getD_eq_getElem?_getD,h1]
 have key :∀n,∃m,m≤n∧Pk p (dV (skL (body p 0))) (zO p n) (zO (uN p) m):=by
  intro n
  induction n with
  | zero =>
   refine ⟨0,Nat.le_refl _,?_⟩
   have hok:=xK h
   have e1:(wP p).1.ths=[aQ]:=by unfold wP; rw [if_pos h,h1]; rfl
   have e2:(wP (uN p)).1.ths=[aQ]:=by
    unfold wP
    rw [if_pos hq,aY h]
    simp [h1]
   have h3:=qEi hok (i:=0) (by rw [e1]; decide)
   have hs3:=qCt h3
   obtain ⟨r1,r2,r3⟩:=xR hs3
   refine ⟨?_,?_,by show (wP p).1.ths.length=1; rw [e1]; rfl,by show (wP (uN p)).1.ths.length=1; rw [e2]; rfl,?_,?_,0,0,?_,?_,r2,?_⟩
   ·show (wP (uN p)).1.chs=(wP p).1.chs
    unfold wP
    rw [if_pos h,if_pos hq,aY h]
   ·show (wP (uN p)).1.tr=(wP p).1.tr
    unfold wP
    rw [if_pos h,if_pos hq]
   ·show ((wP (uN p)).1.ths.getD 0 default).regs=((wP p).1.ths.getD 0 default).regs
    rw [e1,e2]
   ·show ((wP (uN p)).1.ths.getD 0 default).st=((wP p).1.ths.getD 0 default).st
    rw [e1,e2]
   ·show ((wP p).1.ths.getD 0 default).at_=_
    rw [e1]
    rfl
   ·unfold wN at h3
    simp only [Bool.and_eq_true,qK] at h3
    omega
   ·show ((wP (uN p)).1.ths.getD 0 default).at_=_
    rw [e2]
    rfl
  | succ n ih =>
   obtain ⟨m,hm,hk⟩:=ih
   have:=qUm (oD h n) (oD hq m) hb rfl hk
   rw [←cA,←cA] at this
   rcases this with hh | hh
   ·exact ⟨m,by omega,hh⟩
   ·exact ⟨m+1,by omega,hh⟩
 intro n
 obtain ⟨m,hm,hk⟩:=key n
 exact ⟨m,hm,hk.tr,hk.st⟩
theorem qE0 {p:wJ} (h1:p.bods.length=1) :∀n,(zR p (wP p).1 n).1=zO p n
 | 0=>rfl
 | n+1=>by
  rw [zR,h1,cA,←qE0 h1 n]
  rfl
theorem qGo {p:wJ} (h:jB p=true) (h1:p.bods.length=1) {n:Nat} (hn:n<200):(qE1 p (wP p).1 n).1=zO p n:=by
 unfold qE1
 rw [if_pos (xK h),if_pos (by omega),Int.toNat_natCast,qE0 h1]
end Go.Sep
