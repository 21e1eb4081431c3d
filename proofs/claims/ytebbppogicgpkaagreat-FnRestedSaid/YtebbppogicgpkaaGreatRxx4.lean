/- Contracts of functions. -/
import Derived.Test.YtebbppogicgpkaaGreatRxx3
namespace Go.Sep
set_option maxHeartbeats 16000000
open Go.Proofs
set_option linter.unusedSimpArgs false
set_option linter.unusedVariables false
set_option maxRecDepth 100000
theorem gS (p:wV) (s:wS):jB p s=true↔uA p=true∧s.ths.length=p.bods.length∧s.chs.length=p.caps.length∧uY s.tr s.ths.length=true∧
  (∀i,i<s.ths.length→cR (p.bods.getD i []) (s.ths.getD i default)=true)∧(∀j,j<s.chs.length→dQ (s.chs.getD j default)=true∧(s.chs.getD j default).cap=p.caps.getD j 0):=by
 simp only [jB,Bool.and_eq_true,decide_eq_true_eq,List.all_eq_true,List.mem_range]
 constructor
 ·rintro ⟨⟨⟨⟨⟨a,b⟩,c⟩,d⟩,e⟩,f⟩
  exact ⟨a,b,c,d,e,f⟩
 ·rintro ⟨a,b,c,d,e,f⟩
  exact ⟨⟨⟨⟨⟨a,b⟩,c⟩,d⟩,e⟩,f⟩
theorem mA {α:Type} (l:List α) (i j:Nat) (x d:α) (h:i<l.length):(l.set i x).getD j d=if j=i then x else l.getD j d:=by
 simp only [List.getD_eq_getElem?_getD,List.getElem?_set]
 by_cases hij:i=j
 ·subst hij
  simp [h]
 ·simp [hij,Ne.symm hij]
theorem qCz {p:wV} {s:wS} {i:Nat} {t:jY} (h:jB p s=true) (hi:i<s.ths.length) (ht:cR (p.bods.getD i []) t=true):jB p ⟨s.ths.set i t,s.chs,s.tr⟩=true:=by
 rw [gS] at h⊢
 obtain ⟨a,b,c,d,e,f⟩:=h
 refine ⟨a,by simpa using b,c,by simpa using d,fun j hj=>?_,f⟩
 simp only at hj⊢
 rw [mA _ _ _ _ _ hi]
 split
 ·rename_i hji; rw [hji]; exact ht
 ·exact e j (by simpa using hj)
theorem qT6 {p:wV} {s:wS} {j:Nat} {c':gL} (h:jB p s=true) (hj:j<s.chs.length) (hc:dQ c'=true) (hcap:c'.cap=(s.chs.getD j default).cap):jB p ⟨s.ths,s.chs.set j c',s.tr⟩=true:=by
 rw [gS] at h⊢
 obtain ⟨a,b,c,d,e,f⟩:=h
 refine ⟨a,b,by simpa using c,d,e,fun k hk=>?_⟩
 simp only at hk⊢
 rw [mA _ _ _ _ _ hj]
 split
 ·rename_i hkj; rw [hkj]; exact ⟨hc,by rw [hcap]; exact (f j hj).2⟩
 ·exact f k (by simpa using hk)
theorem qY2 {p:wV} {s:wS} {n:xO} (h:jB p s=true) (hn:0≤n.who∧n.who<s.ths.length) (hl:s.tr.length<4000):jB p ⟨s.ths,s.chs,s.tr++[n]⟩=true:=by
 rw [gS] at h⊢
 obtain ⟨a,b,c,d,e,f⟩:=h
 refine ⟨a,b,c,?_,e,f⟩
 simp only [uY,Bool.and_eq_true,decide_eq_true_eq,List.all_append,List.all_cons,List.all_nil,Bool.and_true] at d⊢
 refine ⟨⟨d.1,by rw [qM]; omega⟩,by simp; omega⟩
theorem sG {p:wV} {s:wS} {i:Nat} {t:jY} {ok:Bool} {uI:Int} (h:jB p s=true) (hi:i<s.ths.length) (hr:t.regs.length=4) (hst:0≤t.st∧t.st≤2) (hat:0≤t.at_∧t.at_<(p.bods.getD i []).length) (hn:0≤uI):jB p (aL p s i t ok uI)=true:=by
 unfold aL
 split
 ·exact qCz h hi (by simp only [cR,Bool.and_eq_true,decide_eq_true_eq,qM]; omega)
 ·rename_i hh
  have:uI<(p.bods.getD i []).length:=by
   rcases Int.lt_or_le uI (p.bods.getD i []).length with h1 | h1
   ·exact h1
   ·exact absurd (.inr h1) hh
  exact qCz h hi (by simp only [cR,Bool.and_eq_true,decide_eq_true_eq,qM]; omega)
theorem qMk {c:gL} {v:Int} (h:dQ c=true):dQ (jO c v).1=true∧(jO c v).1.cap=c.cap:=by
 have h2:=qQw h
 rw [qQt c v h]
 split
 ·exact ⟨h,rfl⟩
 ·split
  ·exact ⟨h,rfl⟩
  ·refine ⟨?_,rfl⟩
   simp only [dQ,Bool.and_eq_true,qM,decide_eq_true_eq] at h⊢
   refine ⟨h.1,?_⟩
   simp
   omega
theorem qMi {c:gL} (h:dQ c=true):dQ (yS c).1=true∧(yS c).1.cap=c.cap:=by
 unfold yS
 rw [if_neg (by rw [h]; simp)]
 split
 ·refine ⟨?_,rfl⟩
  simp only [dQ,Bool.and_eq_true,qM,decide_eq_true_eq] at h⊢
  refine ⟨h.1,?_⟩
  simp only [List.length_drop]
  omega
 ·split<;>exact ⟨h,rfl⟩
theorem qJd {c:gL} (h:dQ c=true):dQ (dG c).1=true∧(dG c).1.cap=c.cap:=by
 unfold dG
 split
 ·exact ⟨h,rfl⟩
 ·exact ⟨h,rfl⟩
theorem qMj {t:jY} {c:gL} {x:Ins} (h:dQ c=true):dQ (yV t c x).2.1=true∧(yV t c x).2.1.cap=c.cap:=by
 unfold yV
 split
 ·exact qMk h
 ·split
  ·exact qMi h
  ·exact qJd h
theorem qEp (t:jY) (c:gL) (x:Ins):(yV t c x).1.regs.length=t.regs.length∧(yV t c x).1.st=t.st∧(yV t c x).1.at_=t.at_:=by
 unfold yV
 split
 ·simp only
  split<;>simp [vO]
 ·split
  ·simp only
   split<;>simp [vO]
  ·exact ⟨rfl,rfl,rfl⟩
theorem mP {p:wV} {s:wS} {i:Nat} (h:jB p s=true) (hi:i<s.ths.length) (ht:(ins p s i).op=10→s.tr.length<4000):jB p (jH p s i)=true:=by
 have ha:=qXx h hi
 have e1:=ha.at0
 have e2:=ha.at1
 have e4:=ha.regs
 have hth:=((gS p s).1 h).2.2.2.2.1 i hi
 simp only [cR,Bool.and_eq_true,decide_eq_true_eq,qM] at hth
 obtain ⟨⟨_,hst⟩,hat⟩:=hth
 have hat':0≤(s.ths.getD i default).at_∧(s.ths.getD i default).at_<(p.bods.getD i []).length:=by omega
 have hself :∀r v,(vO (s.ths.getD i default) r v).regs.length=4:=fun r v=>by simp only [vO,List.length_set]; exact e4
 unfold jH
 split
 ·exact sG h hi (hself _ _) hst hat' (by omega)
 split
 ·exact sG h hi (hself _ _) hst hat' (by omega)
 split
 ·rename_i h10
  exact sG (qY2 h ⟨by simp,by simp; exact hi⟩ (ht h10)) hi e4 hst hat' (by omega)
 split
 ·rename_i h11
  exact sG h hi e4 hst hat' (ha.jm (.inl h11)).1
 split
 ·rename_i h12
  exact sG h hi e4 hst hat' (by have:=(ha.jm (.inr h12)).1; split<;>omega)
 split
 ·exact qCz h hi (by simp only [cR,Bool.and_eq_true,decide_eq_true_eq,qM]; omega)
 ·rename_i h1 h2 h10 h11 h12 h13
  obtain ⟨n0,n1⟩:=ha.ch (by have:=ha.op; omega) (by have:=ha.op; omega)
  have hc:=qUa h n1
  obtain ⟨q1,q2⟩:=qMj (t:=s.ths.getD i default) (x:=ins p s i) hc
  obtain ⟨r1,r2,r3⟩:=qEp (s.ths.getD i default) (s.chs.getD (ins p s i).n.toNat default) (ins p s i)
  exact sG (qT6 h n1 q1 q2) hi (by rw [r1]; exact e4) (by rw [r2]; exact hst) (by rw [r3]; exact hat') (by omega)
theorem qTv (l:List Int) (n:Int):wK l++[[.int .i64 n]]=wK (l++[n]):=by simp [wK]
theorem qCk {p:wV} {s:wS} (who:Int) (h:jB p s=true):jB p (jP p s who).1=true:=by
 unfold jP
 split
 ·rename_i hc
  obtain ⟨w0,w1⟩:=qSe hc
  refine mP h w1 fun h10=>?_
  have hn:=qNy h
  unfold jJ at hc
  split at hc
  ·simp at hc
  ·split at hc
   ·simp at hc
   ·rename_i hx
    have :¬(s.tr.length:Int)=4000:=fun e=>hx (.inr ⟨h10,e⟩)
    omega
 ·exact h
end Go.Sep
