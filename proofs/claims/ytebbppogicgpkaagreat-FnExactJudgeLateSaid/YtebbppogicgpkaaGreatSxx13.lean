/- Contracts of functions. -/
import Derived.Test.YtebbppogicgpkaaGreatSxx6
namespace Go.Sep
set_option maxHeartbeats 16000000
open Go.Proofs
set_option linter.unusedSimpArgs false
set_option linter.unusedVariables false
set_option maxRecDepth 100000
theorem bG (p:wM) (s:wH):wX p s=true↔vF p=true∧s.ths.length=p.bods.length∧s.chs.length=p.caps.length∧bY s.tr s.ths.length=true∧
  (∀i,i<s.ths.length→bX (p.bods.getD i []) (s.ths.getD i default)=true)∧(∀j,j<s.chs.length→uO (s.chs.getD j default)=true∧(s.chs.getD j default).cap=p.caps.getD j 0):=by
 simp only [wX,Bool.and_eq_true,decide_eq_true_eq,List.all_eq_true,List.mem_range]
 constructor
 ·rintro ⟨⟨⟨⟨⟨a,b⟩,c⟩,d⟩,e⟩,f⟩
  exact ⟨a,b,c,d,e,f⟩
 ·rintro ⟨a,b,c,d,e,f⟩
  exact ⟨⟨⟨⟨⟨a,b⟩,c⟩,d⟩,e⟩,f⟩
theorem oB {α:Type} (l:List α) (i j:Nat) (x d:α) (h:i<l.length):(l.set i x).getD j d=if j=i then x else l.getD j d:=by
 simp only [List.getD_eq_getElem?_getD,List.getElem?_set]
 by_cases hij:i=j
 ·subst hij
  simp [h]
 ·simp [hij,Ne.symm hij]
theorem qFh {p:wM} {s:wH} {i:Nat} {t:vB} (h:wX p s=true) (hi:i<s.ths.length) (ht:bX (p.bods.getD i []) t=true):wX p ⟨s.ths.set i t,s.chs,s.tr⟩=true:=by
 rw [bG] at h⊢
 obtain ⟨a,b,c,d,e,f⟩:=h
 refine ⟨a,by simpa using b,c,by simpa using d,fun j hj=>?_,f⟩
 simp only at hj⊢
 rw [oB _ _ _ _ _ hi]
 split
 ·rename_i hji; rw [hji]; exact ht
 ·exact e j (by simpa using hj)
theorem qWf {p:wM} {s:wH} {j:Nat} {c':bW} (h:wX p s=true) (hj:j<s.chs.length) (hc:uO c'=true) (hcap:c'.cap=(s.chs.getD j default).cap):wX p ⟨s.ths,s.chs.set j c',s.tr⟩=true:=by
 rw [bG] at h⊢
 obtain ⟨a,b,c,d,e,f⟩:=h
 refine ⟨a,b,by simpa using c,d,e,fun k hk=>?_⟩
 simp only at hk⊢
 rw [oB _ _ _ _ _ hj]
 split
 ·rename_i hkj; rw [hkj]; exact ⟨hc,by rw [hcap]; exact (f j hj).2⟩
 ·exact f k (by simpa using hk)
theorem wB4 {p:wM} {s:wH} {n:xJ} (h:wX p s=true) (hn:0≤n.who∧n.who<s.ths.length) (hl:s.tr.length<4000):wX p ⟨s.ths,s.chs,s.tr++[n]⟩=true:=by
 rw [bG] at h⊢
 obtain ⟨a,b,c,d,e,f⟩:=h
 refine ⟨a,b,c,?_,e,f⟩
 simp only [bY,Bool.and_eq_true,decide_eq_true_eq,List.all_append,List.all_cons,List.all_nil,Bool.and_true] at d⊢
 refine ⟨⟨d.1,by rw [qN]; omega⟩,by simp; omega⟩
theorem qB0 {p:wM} {s:wH} {i:Nat} {t:vB} {ok:Bool} {bK:Int} (h:wX p s=true) (hi:i<s.ths.length) (hr:t.regs.length=4) (hst:0≤t.st∧t.st≤2) (hat:0≤t.at_∧t.at_<(p.bods.getD i []).length) (hn:0≤bK):wX p (gK p s i t ok bK)=true:=by
 unfold gK
 split
 ·exact qFh h hi (by simp only [bX,Bool.and_eq_true,decide_eq_true_eq,qN]; omega)
 ·rename_i hh
  have:bK<(p.bods.getD i []).length:=by
   rcases Int.lt_or_le bK (p.bods.getD i []).length with h1 | h1
   ·exact h1
   ·exact absurd (.inr h1) hh
  exact qFh h hi (by simp only [bX,Bool.and_eq_true,decide_eq_true_eq,qN]; omega)
theorem qPa {c:bW} {v:Int} (h:uO c=true):uO (jE c v).1=true∧(jE c v).1.cap=c.cap:=by
 have h2:=qKs h
 rw [qTu c v h]
 split
 ·exact ⟨h,rfl⟩
 ·split
  ·exact ⟨h,rfl⟩
  ·refine ⟨?_,rfl⟩
   simp only [uO,Bool.and_eq_true,qN,decide_eq_true_eq] at h⊢
   refine ⟨h.1,?_⟩
   simp
   omega
theorem qP8 {c:bW} (h:uO c=true):uO (yG c).1=true∧(yG c).1.cap=c.cap:=by
 unfold yG
 rw [if_neg (by rw [h]; simp)]
 split
 ·refine ⟨?_,rfl⟩
  simp only [uO,Bool.and_eq_true,qN,decide_eq_true_eq] at h⊢
  refine ⟨h.1,?_⟩
  simp only [List.length_drop]
  omega
 ·split<;>exact ⟨h,rfl⟩
theorem qMa {c:bW} (h:uO c=true):uO (bC c).1=true∧(bC c).1.cap=c.cap:=by
 unfold bC
 split
 ·exact ⟨h,rfl⟩
 ·exact ⟨h,rfl⟩
theorem qP9 {t:vB} {c:bW} {x:Ins} (h:uO c=true):uO (yB t c x).2.1=true∧(yB t c x).2.1.cap=c.cap:=by
 unfold yB
 split
 ·exact qPa h
 ·split
  ·exact qP8 h
  ·exact qMa h
theorem qGy (t:vB) (c:bW) (x:Ins):(yB t c x).1.regs.length=t.regs.length∧(yB t c x).1.st=t.st∧(yB t c x).1.at_=t.at_:=by
 unfold yB
 split
 ·simp only
  split<;>simp [yU]
 ·split
  ·simp only
   split<;>simp [yU]
  ·exact ⟨rfl,rfl,rfl⟩
theorem oR {p:wM} {s:wH} {i:Nat} (h:wX p s=true) (hi:i<s.ths.length) (ht:(ins p s i).op=10→s.tr.length<4000):wX p (yP p s i)=true:=by
 have ha:=qVd h hi
 have e1:=ha.at0
 have e2:=ha.at1
 have e4:=ha.regs
 have hth:=((bG p s).1 h).2.2.2.2.1 i hi
 simp only [bX,Bool.and_eq_true,decide_eq_true_eq,qN] at hth
 obtain ⟨⟨_,hst⟩,hat⟩:=hth
 have hat':0≤(s.ths.getD i default).at_∧(s.ths.getD i default).at_<(p.bods.getD i []).length:=by omega
 have hself :∀r v,(yU (s.ths.getD i default) r v).regs.length=4:=fun r v=>by simp only [yU,List.length_set]; exact e4
 unfold yP
 split
 ·exact qB0 h hi (hself _ _) hst hat' (by omega)
 split
 ·exact qB0 h hi (hself _ _) hst hat' (by omega)
 split
 ·rename_i h10
  exact qB0 (wB4 h ⟨by simp,by simp; exact hi⟩ (ht h10)) hi e4 hst hat' (by omega)
 split
 ·rename_i h11
  exact qB0 h hi e4 hst hat' (ha.jm (.inl h11)).1
 split
 ·rename_i h12
  exact qB0 h hi e4 hst hat' (by have:=(ha.jm (.inr h12)).1; split<;>omega)
 split
 ·exact qFh h hi (by simp only [bX,Bool.and_eq_true,decide_eq_true_eq,qN]; omega)
 ·rename_i h1 h2 h10 h11 h12 h13
  obtain ⟨n0,n1⟩:=ha.ch (by have:=ha.op; omega) (by have:=ha.op; omega)
  have hc:=qXg h n1
  obtain ⟨q1,q2⟩:=qP9 (t:=s.ths.getD i default) (x:=ins p s i) hc
  obtain ⟨r1,r2,r3⟩:=qGy (s.ths.getD i default) (s.chs.getD (ins p s i).n.toNat default) (ins p s i)
  exact qB0 (qWf h n1 q1 q2) hi (by rw [r1]; exact e4) (by rw [r2]; exact hst) (by rw [r3]; exact hat') (by omega)
theorem iV {p:wM} {s:wH} (who:Int) (h:wX p s=true):wX p (wT p s who).1=true:=by
 unfold wT
 split
 ·rename_i hc
  obtain ⟨w0,w1⟩:=qHn hc
  refine oR h w1 fun h10=>?_
  have hn:=tZ h
  unfold yL at hc
  split at hc
  ·simp at hc
  ·split at hc
   ·simp at hc
   ·rename_i hx
    have :¬(s.tr.length:Int)=4000:=fun e=>hx (.inr ⟨h10,e⟩)
    omega
 ·exact h
end Go.Sep
