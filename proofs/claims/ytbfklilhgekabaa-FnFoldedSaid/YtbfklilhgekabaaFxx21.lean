/- Contracts of functions. -/
import Derived.Test.YtbfklilhgekabaaFxx20
open Bool renaming and_eq_true → qZa
open Int renaming toNat_natCast → wB1
namespace Go.Sep
set_option maxHeartbeats 16000000
open Go.Proofs
set_option linter.unusedSimpArgs false
set_option linter.unusedVariables false
set_option maxRecDepth 100000
theorem qMu (l:List Ins) (K:KS) :∀(n i:Nat),n≤l.length→i<l.length→(fZ l K n).getD i default=if i<n then gP (l.getD i default) (K.getD i []) ((i+1:Nat):Int) else l.getD i default
 | 0,i,_,_=>by simp [fZ]
 | n+1,i,hn,hi=>by
  rw [fZ,uO _ _ _ _ _ (by rw [gB]; omega),qMu l K n i (by omega) hi]
  by_cases e:i=n
  ·subst e
   rw [if_pos rfl,if_pos (by omega)]
  ·rw [if_neg e]
   by_cases h2:i<n
   ·rw [if_pos h2,if_pos (by omega)]
   ·rw [if_neg h2,if_neg (by omega)]
theorem qFp {l:List Ins} (h:wT l 3=true) {i:Nat} (hi:i<l.length):(dG l).getD i default=gP (l.getD i default) ((uY (nL l)).getD i []) ((i+1:Nat):Int):=by
 have hk:zP l=uY (nL l):=by
  unfold zP xW
  rw [if_pos h]
 have hl:(zP l).length=l.length:=by rw [hk,zC,(xY l h).inv.len]
 unfold dG
 rw [hl,qMu l _ l.length i (Nat.le_refl _) hi,if_pos hi,hk]
theorem qV5 {l:List Ins} (h:wT l 3=true) {i:Nat} (hi:i<l.length) (hk:kat (nL l) i≠[]):(uY (nL l)).getD i []=kat (nL l) i:=by
 rw [aE _ _ (by rw [(xY l h).inv.len]; exact hi)]
 exact if_neg hk
theorem qMt {x:Ins} {k:KV} {regs:List Int} {at_:Nat} (ho:Op4 x) (hk:k.length=4) (h:iP k regs) :∃y,gP x k ((at_+1:Nat):Int)=y∧(y=x∨((x.op=2∨x.op=3∨x.op=4∨x.op=12)∧(y.op=1∨y.op=11)∧(∀c,nN y regs c=nN x regs c)∧qHh y regs at_=qHh x regs at_)):=by
 obtain ⟨r0,r1,a0,a1,b0,b1⟩:=ho
 refine ⟨_,rfl,?_⟩
 rw [mN hk (by rw [qK]; omega) (by rw [qK]; omega)]
 split
 ·rename_i hc
  simp only [qZa,dU] at hc
  obtain ⟨⟨⟨h1,h2⟩,h3⟩,h4⟩:=hc
  right
  refine ⟨by omega,.inl rfl,fun c=>?_,?_⟩
  ·unfold nN
   rw [if_pos rfl,if_neg (by omega),if_pos h1,h _ (by omega) h2,h _ (by omega) h3]
  ·unfold qHh
   rw [if_neg (by simp),if_neg (by simp),if_neg (by omega),if_neg (by omega)]
 split
 ·rename_i hc
  obtain ⟨h1,h2⟩:=hc
  have hv:=h _ (by omega) h2
  right
  split
  ·rename_i hz
   refine ⟨by omega,.inr rfl,fun c=>?_,?_⟩
   ·unfold nN rV
    rw [h1]
    simp
   ·unfold qHh
    rw [if_pos rfl,if_neg (by omega),if_pos h1,if_pos (by rw [←hv]; exact hz)]
  ·rename_i hz
   refine ⟨by omega,.inr rfl,fun c=>?_,?_⟩
   ·unfold nN rV
    rw [h1]
    simp
   ·unfold qHh
    rw [if_pos rfl,if_neg (by omega),if_pos h1,if_neg (by rw [←hv]; exact hz)]
    push_cast
    rfl
 ·exact .inl rfl
theorem qV4 {l:List Ins} {c:Int} (h:wT l c=true):wT (dG l) c=true:=by
 have h3:=qD7 h
 have hlen:=aW l
 have hlf:=xY l h3
 have hb:=h
 unfold wT at h⊢
 simp only [qZa,qK,List.all_eq_true,Bool.or_eq_true,decide_eq_true_eq] at h⊢
 obtain ⟨⟨⟨h1,h2⟩,h4⟩,h5⟩:=h
 rw [hlen]
 have hlast :∀i,i<l.length→(l.getD i default).op≠11→(l.getD i default).op≠13→i+1<l.length:=by
  intro i hi g1 g2
  rcases Nat.lt_or_ge (i+1) l.length with hh | hh
  ·exact hh
  ·exfalso
   have e:l.length-1=i:=by omega
   unfold zU at h5
   rw [e] at h5
   omega
 refine ⟨⟨⟨h1,h2⟩,fun y hy=>?_⟩,?_⟩
 ·obtain ⟨i,hi,rfl⟩:=List.getElem_of_mem hy
  have hi':i<l.length:=by omega
  have e:(dG l)[i]=(dG l).getD i default:=by simp [List.getD_eq_getElem?_getD,hi]
  rw [e,qFp h3 hi']
  have hx:=h4 _ (yL l i default hi')
  obtain ⟨o1,o2,o3,o4⟩:=fV hx
  have hkl:((uY (nL l)).getD i []).length=4:=by
   rw [aE _ _ (by rw [hlf.inv.len]; exact hi')]
   split
   ·rfl
   ·rename_i hk
    exact ((hlf.inv.wf i).resolve_left hk).1
  rw [mN hkl o3 o4]
  have hl:=hlast i hi'
  generalize l.getD i default=x at *
  split
  ·rename_i hc
   simp only [qZa] at hc
   unfold jF
   simp [o2,hc.2,qK] at *
   omega
  split
  ·rename_i hc
   have hjm:=qFk hx (.inr hc.1)
   have hl2:=hl (by omega) (by omega)
   split
   ·unfold jF
    simp [qK]
    omega
   ·unfold jF
    simp [qK]
    omega
  ·exact hx
 ·have hn:l.length-1<l.length:=by omega
  unfold zU at h5⊢
  rw [hlen,qFp h3 hn]
  have hx:=h4 _ (yL l (l.length-1) default hn)
  obtain ⟨o1,o2,o3,o4⟩:=fV hx
  generalize l.getD (l.length-1) default=x at *
  unfold gP
  split
  ·split
   ·rename_i hc
    simp only [qZa,dU] at hc
    omega
   split
   ·rename_i hc
    omega
   ·exact h5
  ·exact h5
theorem cJ {p:wV} (h:yT p=true):wX p=⟨p.caps,p.bods.map dG⟩:=by simp [wX,h]
theorem sD {p:wV} (h:yT p=true) {i:Nat} (hi:i<p.bods.length):body (wX p) i=dG (body p i):=by
 rw [cJ h]
 unfold body
 simp [List.getD_eq_getElem?_getD,hi]
theorem cI {p:wV} (h:yT p=true):yT (wX p)=true:=by
 rw [cJ h]
 unfold yT at h⊢
 simp only [qZa,List.all_eq_true,List.length_map] at h⊢
 obtain ⟨⟨⟨h1,h2⟩,h3⟩,h4⟩:=h
 refine ⟨⟨⟨fun b hb=>?_,h2⟩,h3⟩,h4⟩
 obtain ⟨b',hb',rfl⟩:=List.mem_map.1 hb
 exact qV4 (h1 b' hb')
theorem qH3 {p q:wV} (hq:yT q=true) (hc:q.caps=p.caps) (hl:q.bods.length=p.bods.length) (hb :∀i,i<p.bods.length→(q.bods.getD i []).length=(p.bods.getD i []).length) {s:qV} (h:wF p s=true):wF q s=true:=by
 rw [yY] at h⊢
 obtain ⟨a,b,c,d,e,f⟩:=h
 refine ⟨hq,by omega,by rw [hc]; exact c,d,fun i hi=>?_,fun j hj=>by rw [hc]; exact f j hj⟩
 have:=e i hi
 unfold vS at this⊢
 rw [hb i (by omega)]
 exact this
theorem qKi {p:wV} {s:qV} (h:wF p s=true):wF (wX p) s=true:=by
 have hp:=((yY p s).1 h).1
 refine qH3 (cI hp) (by rw [cJ hp]) (by rw [cJ hp]; simp) (fun i hi=>?_) h
 have:=sD hp hi
 unfold body at this
 rw [this,aW]
theorem qSq {p:wV} {s:qV} (h:KnI p s) (who:Int):qY (wX p) s who=qY p s who:=by
 have hp:=((yY p s).1 h.ok).1
 by_cases hw:0≤who∧who.toNat<s.ths.length
 case neg =>
  have hno :∀q,wW q s who=2:=by
   intro q
   unfold wW
   have hw2:qO who 0 ((s.ths.length:Int)-1)=false:=by
    cases hh:qO who 0 ((s.ths.length:Int)-1)
    ·rfl
    ·rw [qK] at hh
     exact absurd ⟨hh.1,by omega⟩ hw
   rw [hw2,if_pos rfl]
  unfold qY
  rw [hno,hno]
  rfl
 obtain ⟨i,rfl⟩:=Int.eq_ofNat_of_zero_le hw.1
 have hi:i<s.ths.length:=by simpa using hw.2
 clear hw
 have hA:=qDb h.ok hi
 have hb3:=qGa h.ok hi
 obtain ⟨k1,k2⟩:=h.kn i hi
 have hat:(thd s i).at_.toNat<(body p i).length:=hA.at1
 have hwf:=((xY _ hb3).inv.wf (thd s i).at_.toNat).resolve_left k1
 have hbi:body (wX p) i=dG (body p i):=sD hp hA.hb
 have hins:ins (wX p) s i=gP (ins p s i) (kat (nL (body p i)) (thd s i).at_.toNat) (((thd s i).at_.toNat+1:Nat):Int):=by
  show (body (wX p) i).getD (thd s i).at_.toNat default=_
  rw [hbi,qFp hb3 hat,qV5 hb3 hat k1]
  rfl
 have ho4:Op4 (ins p s i):=⟨hA.r0,by have:=hA.r1; omega,hA.a0,by have:=hA.a1; omega,hA.b0,by have:=hA.b1; omega⟩
 obtain ⟨y,hy,hcase⟩:=qMt (at_:=(thd s i).at_.toNat) ho4 hwf.1 k2
 rw [hy] at hins
 have hlen:((wX p).bods.getD i []).length=(p.bods.getD i []).length:=by
  show (body (wX p) i).length=_
  rw [hbi,aW]
  rfl
 have hate:(((thd s i).at_.toNat:Nat):Int)=(thd s i).at_:=by have:0≤(thd s i).at_:=hA.at0; omega
 rw [hate] at hcase
 rcases hcase with he | ⟨c1,c2,c3,c4⟩
 ·have he2:ins (wX p) s i=ins p s i:=by rw [hins,he]
  have hcode:wW (wX p) s i=wW p s i:=by
   unfold wW
   rw [wB1,he2]
  have hdo:wQ (wX p) s i=wQ p s i:=by
   have hop:=hA.op
   rw [hB hop,hB (by rw [he2]; exact hop),he2]
   unfold vV
   rw [hlen]
  unfold qY
  rw [hcode,wB1,hdo]
 ·have hcode:wW (wX p) s i=wW p s i:=by
   unfold wW
   rw [wB1,hins]
   have e1 :¬(y.op=10∧(s.tr.length:Int)=4000):=by omega
   have e2 :¬((ins p s i).op=10∧(s.tr.length:Int)=4000):=by omega
   have e3 :¬y.op=5∧¬y.op=6:=by omega
   have e4 :¬(ins p s i).op=5∧¬(ins p s i).op=6:=by omega
   simp only [e1,e2,e3,e4,or_false,not_false_eq_true,and_self,if_true]
  have hdo:wQ (wX p) s i=wQ p s i:=by
   have hop:=hA.op
   rw [hB hop,hB (by rw [hins]; omega),hins,if_neg (by omega),if_neg (by omega),c4,c3 (chn s y.n.toNat)]
   have hx1:rV y=false:=by unfold rV; simp; omega
   have hx2:rV (ins p s i)=false:=by unfold rV; simp; omega
   have hT1:qMy i y (thd s i).regs s.tr=s.tr:=by unfold qMy; rw [if_neg (by omega)]
   have hT2:qMy i (ins p s i) (thd s i).regs s.tr=s.tr:=by unfold qMy; rw [if_neg (by omega)]
   have hR :∀c d,nN (ins p s i) (thd s i).regs c=nN (ins p s i) (thd s i).regs d:=by
    intro c d
    unfold nN
    rw [hx2]
    rfl
   have hC1:qMz y (thd s i).regs s.chs=s.chs:=by unfold qMz; rw [hx1]; rfl
   have hC2:qMz (ins p s i) (thd s i).regs s.chs=s.chs:=by unfold qMz; rw [hx2]; rfl
   have hO1:pB y (thd s i).regs (chn s y.n.toNat)=true:=by unfold pB; rw [hx1]; rfl
   have hO2:pB (ins p s i) (thd s i).regs (chn s (ins p s i).n.toNat)=true:=by unfold pB; rw [hx2]; rfl
   rw [hT1,hT2,hC1,hC2,hO1,hO2,hR (chn s y.n.toNat) (chn s (ins p s i).n.toNat)]
   unfold vV
   rw [hlen]
  unfold qY
  rw [hcode,wB1,hdo]
theorem qMs {p:wV} :∀(l:List Int) {s:qV},KnI p s→qJt (wX p) s l=qJt p s l∧sL (wX p) s l=sL p s l∧KnI p (qJt p s l)
 | [],s,h=>⟨rfl,rfl,h⟩
 | x::l,s,h=>by
  have e:=qSq h x
  obtain ⟨h1,h2,h3⟩:=qMs l (h.step x)
  simp only [qJt,sL]
  rw [e]
  exact ⟨h1,by rw [h2],h3⟩
theorem qV3 {p:wV} (h:yT p=true):yP (wX p)=yP p:=by
 unfold yP
 rw [if_pos h,if_pos (cI h),cJ h]
 simp
def qWn (p:wV) (n:Nat):qV:=qJt p (yP p).1 (List.replicate n 0)
def Beh (p q:wV):Prop :=∀n,∃m,m≤n∧(qWn q m).tr=(qWn p n).tr∧(thd (qWn q m) 0).st=(thd (qWn p n) 0).st
theorem Beh.refl (p:wV):Beh p p:=fun n=>⟨n,Nat.le_refl _,rfl,rfl⟩
theorem Beh.trans {p q r:wV} (h:Beh p q) (k:Beh q r):Beh p r:=by
 intro n
 obtain ⟨m,h1,h2,h3⟩:=h n
 obtain ⟨m',k1,k2,k3⟩:=k m
 exact ⟨m',by omega,by rw [k2,h2],by rw [k3,h3]⟩
end Go.Sep
