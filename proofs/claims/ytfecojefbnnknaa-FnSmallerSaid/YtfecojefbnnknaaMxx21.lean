/- Contracts of functions. -/
import Derived.Test.YtfecojefbnnknaaMxx20
open Bool renaming and_eq_true → wCs
open Int renaming toNat_natCast → wEj
namespace Go.Sep
set_option maxHeartbeats 16000000
open Go.Proofs
set_option linter.unusedSimpArgs false
set_option linter.unusedVariables false
set_option maxRecDepth 100000
theorem qOc (l:List Ins) (K:KS) :∀(n i:Nat),n≤l.length→i<l.length→(pP l K n).getD i default=if i<n then zV (l.getD i default) (K.getD i []) ((i+1:Nat):Int) else l.getD i default
 | 0,i,_,_=>by simp [pP]
 | n+1,i,hn,hi=>by
  rw [pP,yU _ _ _ _ _ (by rw [xJ]; omega),qOc l K n i (by omega) hi]
  by_cases e:i=n
  ·subst e
   rw [if_pos rfl,if_pos (by omega)]
  ·rw [if_neg e]
   by_cases h2:i<n
   ·rw [if_pos h2,if_pos (by omega)]
   ·rw [if_neg h2,if_neg (by omega)]
theorem qGt {l:List Ins} (h:wB l 3=true) {i:Nat} (hi:i<l.length):(eN l).getD i default=zV (l.getD i default) ((aC (pH l)).getD i []) ((i+1:Nat):Int):=by
 have hk:aG l=aC (pH l):=by
  unfold aG iI
  rw [if_pos h]
 have hl:(aG l).length=l.length:=by rw [hk,fP,(eG l h).inv.len]
 unfold eN
 rw [hl,qOc l _ l.length i (Nat.le_refl _) hi,if_pos hi,hk]
theorem qXv {l:List Ins} (h:wB l 3=true) {i:Nat} (hi:i<l.length) (hk:kat (pH l) i≠[]):(aC (pH l)).getD i []=kat (pH l) i:=by
 rw [tJ _ _ (by rw [(eG l h).inv.len]; exact hi)]
 exact if_neg hk
theorem qOb {x:Ins} {k:KV} {regs:List Int} {at_:Nat} (ho:Op4 x) (hk:k.length=4) (h:kH k regs) :∃y,zV x k ((at_+1:Nat):Int)=y∧(y=x∨((x.op=2∨x.op=3∨x.op=4∨x.op=12)∧(y.op=1∨y.op=11)∧(∀c,aF y regs c=aF x regs c)∧aW y regs at_=aW x regs at_)):=by
 obtain ⟨r0,r1,a0,a1,b0,b1⟩:=ho
 refine ⟨_,rfl,?_⟩
 rw [tI hk (by rw [qK]; omega) (by rw [qK]; omega)]
 split
 ·rename_i hc
  simp only [wCs,zL] at hc
  obtain ⟨⟨⟨h1,h2⟩,h3⟩,h4⟩:=hc
  right
  refine ⟨by omega,.inl rfl,fun c=>?_,?_⟩
  ·unfold aF
   rw [if_pos rfl,if_neg (by omega),if_pos h1,h _ (by omega) h2,h _ (by omega) h3]
  ·unfold aW
   rw [if_neg (by simp),if_neg (by simp),if_neg (by omega),if_neg (by omega)]
 split
 ·rename_i hc
  obtain ⟨h1,h2⟩:=hc
  have hv:=h _ (by omega) h2
  right
  split
  ·rename_i hz
   refine ⟨by omega,.inr rfl,fun c=>?_,?_⟩
   ·unfold aF eV
    rw [h1]
    simp
   ·unfold aW
    rw [if_pos rfl,if_neg (by omega),if_pos h1,if_pos (by rw [←hv]; exact hz)]
  ·rename_i hz
   refine ⟨by omega,.inr rfl,fun c=>?_,?_⟩
   ·unfold aF eV
    rw [h1]
    simp
   ·unfold aW
    rw [if_pos rfl,if_neg (by omega),if_pos h1,if_neg (by rw [←hv]; exact hz)]
    push_cast
    rfl
 ·exact .inl rfl
theorem qXt {l:List Ins} {c:Int} (h:wB l c=true):wB (eN l) c=true:=by
 have h3:=cY h
 have hlen:=nJ l
 have hlf:=eG l h3
 have hb:=h
 unfold wB at h⊢
 simp only [wCs,qK,List.all_eq_true,Bool.or_eq_true,decide_eq_true_eq] at h⊢
 obtain ⟨⟨⟨h1,h2⟩,h4⟩,h5⟩:=h
 rw [hlen]
 have hlast :∀i,i<l.length→(l.getD i default).op≠11→(l.getD i default).op≠13→i+1<l.length:=by
  intro i hi g1 g2
  rcases Nat.lt_or_ge (i+1) l.length with hh | hh
  ·exact hh
  ·exfalso
   have e:l.length-1=i:=by omega
   unfold dZ at h5
   rw [e] at h5
   omega
 refine ⟨⟨⟨h1,h2⟩,fun y hy=>?_⟩,?_⟩
 ·obtain ⟨i,hi,rfl⟩:=List.getElem_of_mem hy
  have hi':i<l.length:=by omega
  have e:(eN l)[i]=(eN l).getD i default:=by simp [List.getD_eq_getElem?_getD,hi]
  rw [e,qGt h3 hi']
  have hx:=h4 _ (yL l i default hi')
  obtain ⟨o1,o2,o3,o4⟩:=iJ hx
  have hkl:((aC (pH l)).getD i []).length=4:=by
   rw [tJ _ _ (by rw [hlf.inv.len]; exact hi')]
   split
   ·rfl
   ·rename_i hk
    exact ((hlf.inv.wf i).resolve_left hk).1
  rw [tI hkl o3 o4]
  have hl:=hlast i hi'
  generalize l.getD i default=x at *
  split
  ·rename_i hc
   simp only [wCs] at hc
   unfold jE
   simp [o2,hc.2,qK] at *
   omega
  split
  ·rename_i hc
   have hjm:=mD hx (.inr hc.1)
   have hl2:=hl (by omega) (by omega)
   split
   ·unfold jE
    simp [qK]
    omega
   ·unfold jE
    simp [qK]
    omega
  ·exact hx
 ·have hn:l.length-1<l.length:=by omega
  unfold dZ at h5⊢
  rw [hlen,qGt h3 hn]
  have hx:=h4 _ (yL l (l.length-1) default hn)
  obtain ⟨o1,o2,o3,o4⟩:=iJ hx
  generalize l.getD (l.length-1) default=x at *
  unfold zV
  split
  ·split
   ·rename_i hc
    simp only [wCs,zL] at hc
    omega
   split
   ·rename_i hc
    omega
   ·exact h5
  ·exact h5
theorem cS {p:wK} (h:wY p=true):jA p=⟨p.caps,p.bods.map eN⟩:=by simp [jA,h]
theorem qIg {p:wK} (h:wY p=true) {i:Nat} (hi:i<p.bods.length):body (jA p) i=eN (body p i):=by
 rw [cS h]
 unfold body
 simp [List.getD_eq_getElem?_getD,hi]
theorem aT {p:wK} (h:wY p=true):wY (jA p)=true:=by
 rw [cS h]
 unfold wY at h⊢
 simp only [wCs,List.all_eq_true,List.length_map] at h⊢
 obtain ⟨⟨⟨h1,h2⟩,h3⟩,h4⟩:=h
 refine ⟨⟨⟨fun b hb=>?_,h2⟩,h3⟩,h4⟩
 obtain ⟨b',hb',rfl⟩:=List.mem_map.1 hb
 exact qXt (h1 b' hb')
theorem qUu {p:wK} {s:qU} (h:KnI p s) (who:Int):qM (jA p) s who=qM p s who:=by
 have hp:=((jF p s).1 h.ok).1
 by_cases hw:0≤who∧who.toNat<s.ths.length
 case neg =>
  have hno :∀q,wC q s who=2:=by
   intro q
   unfold wC
   have hw2:qR who 0 ((s.ths.length:Int)-1)=false:=by
    cases hh:qR who 0 ((s.ths.length:Int)-1)
    ·rfl
    ·rw [qK] at hh
     exact absurd ⟨hh.1,by omega⟩ hw
   rw [hw2,if_pos rfl]
  unfold qM
  rw [hno,hno]
  rfl
 obtain ⟨i,rfl⟩:=Int.eq_ofNat_of_zero_le hw.1
 have hi:i<s.ths.length:=by simpa using hw.2
 clear hw
 have hA:=nY h.ok hi
 have hb3:=rA h.ok hi
 obtain ⟨k1,k2⟩:=h.kn i hi
 have hat:(thd s i).at_.toNat<(body p i).length:=hA.at1
 have hwf:=((eG _ hb3).inv.wf (thd s i).at_.toNat).resolve_left k1
 have hbi:body (jA p) i=eN (body p i):=qIg hp hA.hb
 have hins:ins (jA p) s i=zV (ins p s i) (kat (pH (body p i)) (thd s i).at_.toNat) (((thd s i).at_.toNat+1:Nat):Int):=by
  show (body (jA p) i).getD (thd s i).at_.toNat default=_
  rw [hbi,qGt hb3 hat,qXv hb3 hat k1]
  rfl
 have ho4:Op4 (ins p s i):=⟨hA.r0,by have:=hA.r1; omega,hA.a0,by have:=hA.a1; omega,hA.b0,by have:=hA.b1; omega⟩
 obtain ⟨y,hy,hcase⟩:=qOb (at_:=(thd s i).at_.toNat) ho4 hwf.1 k2
 rw [hy] at hins
 have hlen:((jA p).bods.getD i []).length=(p.bods.getD i []).length:=by
  show (body (jA p) i).length=_
  rw [hbi,nJ]
  rfl
 have hate:(((thd s i).at_.toNat:Nat):Int)=(thd s i).at_:=by have:0≤(thd s i).at_:=hA.at0; omega
 rw [hate] at hcase
 rcases hcase with he | ⟨c1,c2,c3,c4⟩
 ·have he2:ins (jA p) s i=ins p s i:=by rw [hins,he]
  have hcode:wC (jA p) s i=wC p s i:=by
   unfold wC
   rw [wEj,he2]
  have hdo:wH (jA p) s i=wH p s i:=by
   have hop:=hA.op
   rw [dM hop,dM (by rw [he2]; exact hop),he2]
   unfold vG
   rw [hlen]
  unfold qM
  rw [hcode,wEj,hdo]
 ·have hcode:wC (jA p) s i=wC p s i:=by
   unfold wC
   rw [wEj,hins]
   have e1 :¬(y.op=10∧(s.tr.length:Int)=4000):=by omega
   have e2 :¬((ins p s i).op=10∧(s.tr.length:Int)=4000):=by omega
   have e3 :¬y.op=5∧¬y.op=6:=by omega
   have e4 :¬(ins p s i).op=5∧¬(ins p s i).op=6:=by omega
   simp only [e1,e2,e3,e4,or_false,not_false_eq_true,and_self,if_true]
  have hdo:wH (jA p) s i=wH p s i:=by
   have hop:=hA.op
   rw [dM hop,dM (by rw [hins]; omega),hins,if_neg (by omega),if_neg (by omega),c4,c3 (chn s y.n.toNat)]
   have hx1:eV y=false:=by unfold eV; simp; omega
   have hx2:eV (ins p s i)=false:=by unfold eV; simp; omega
   have hT1:oC i y (thd s i).regs s.tr=s.tr:=by unfold oC; rw [if_neg (by omega)]
   have hT2:oC i (ins p s i) (thd s i).regs s.tr=s.tr:=by unfold oC; rw [if_neg (by omega)]
   have hR :∀c d,aF (ins p s i) (thd s i).regs c=aF (ins p s i) (thd s i).regs d:=by
    intro c d
    unfold aF
    rw [hx2]
    rfl
   have hC1:sG y (thd s i).regs s.chs=s.chs:=by unfold sG; rw [hx1]; rfl
   have hC2:sG (ins p s i) (thd s i).regs s.chs=s.chs:=by unfold sG; rw [hx2]; rfl
   have hO1:xU y (thd s i).regs (chn s y.n.toNat)=true:=by unfold xU; rw [hx1]; rfl
   have hO2:xU (ins p s i) (thd s i).regs (chn s (ins p s i).n.toNat)=true:=by unfold xU; rw [hx2]; rfl
   rw [hT1,hT2,hC1,hC2,hO1,hO2,hR (chn s y.n.toNat) (chn s (ins p s i).n.toNat)]
   unfold vG
   rw [hlen]
  unfold qM
  rw [hcode,wEj,hdo]
theorem qO9 {p:wK} :∀(l:List Int) {s:qU},KnI p s→lT (jA p) s l=lT p s l∧fB (jA p) s l=fB p s l∧KnI p (lT p s l)
 | [],s,h=>⟨rfl,rfl,h⟩
 | x::l,s,h=>by
  have e:=qUu h x
  obtain ⟨h1,h2,h3⟩:=qO9 l (h.step x)
  simp only [lT,fB]
  rw [e]
  exact ⟨h1,by rw [h2],h3⟩
theorem qOa {p:wK} (h:wY p=true):wE (jA p)=wE p:=by
 unfold wE
 rw [if_pos h,if_pos (aT h),cS h]
 simp
end Go.Sep
