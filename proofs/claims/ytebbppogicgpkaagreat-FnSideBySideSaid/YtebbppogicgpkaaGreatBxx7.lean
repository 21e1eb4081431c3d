/- Contracts of functions. -/
import Derived.Test.YtebbppogicgpkaaGreatBxx6
namespace Go.Sep
set_option maxHeartbeats 16000000
open Go.Proofs
set_option linter.unusedSimpArgs false
set_option linter.unusedVariables false
set_option maxRecDepth 100000
theorem uP (p:wR) (s:wC):wE p s=true↔jQ p=true∧s.ths.length=p.bods.length∧s.chs.length=p.caps.length∧uR s.tr s.ths.length=true∧
  (∀i,i<s.ths.length→vG (p.bods.getD i []) (s.ths.getD i default)=true)∧(∀j,j<s.chs.length→vC (s.chs.getD j default)=true∧(s.chs.getD j default).cap=p.caps.getD j 0):=by
 simp only [wE,Bool.and_eq_true,decide_eq_true_eq,List.all_eq_true,List.mem_range]
 constructor
 ·rintro ⟨⟨⟨⟨⟨a,b⟩,c⟩,d⟩,e⟩,f⟩
  exact ⟨a,b,c,d,e,f⟩
 ·rintro ⟨a,b,c,d,e,f⟩
  exact ⟨⟨⟨⟨⟨a,b⟩,c⟩,d⟩,e⟩,f⟩
theorem nA {α:Type} (l:List α) (i j:Nat) (x d:α) (h:i<l.length):(l.set i x).getD j d=if j=i then x else l.getD j d:=by
 simp only [List.getD_eq_getElem?_getD,List.getElem?_set]
 by_cases hij:i=j
 ·subst hij
  simp [h]
 ·simp [hij,Ne.symm hij]
theorem qD9 {p:wR} {s:wC} {i:Nat} {t:jJ} (h:wE p s=true) (hi:i<s.ths.length) (ht:vG (p.bods.getD i []) t=true):wE p ⟨s.ths.set i t,s.chs,s.tr⟩=true:=by
 rw [uP] at h⊢
 obtain ⟨a,b,c,d,e,f⟩:=h
 refine ⟨a,by simpa using b,c,by simpa using d,fun j hj=>?_,f⟩
 simp only at hj⊢
 rw [nA _ _ _ _ _ hi]
 split
 ·rename_i hji; rw [hji]; exact ht
 ·exact e j (by simpa using hj)
theorem qSe {p:wR} {s:wC} {j:Nat} {c':bH} (h:wE p s=true) (hj:j<s.chs.length) (hc:vC c'=true) (hcap:c'.cap=(s.chs.getD j default).cap):wE p ⟨s.ths,s.chs.set j c',s.tr⟩=true:=by
 rw [uP] at h⊢
 obtain ⟨a,b,c,d,e,f⟩:=h
 refine ⟨a,b,by simpa using c,d,e,fun k hk=>?_⟩
 simp only at hk⊢
 rw [nA _ _ _ _ _ hj]
 split
 ·rename_i hkj; rw [hkj]; exact ⟨hc,by rw [hcap]; exact (f j hj).2⟩
 ·exact f k (by simpa using hk)
theorem qX3 {p:wR} {s:wC} {n:aT} (h:wE p s=true) (hn:0≤n.who∧n.who<s.ths.length) (hl:s.tr.length<4000):wE p ⟨s.ths,s.chs,s.tr++[n]⟩=true:=by
 rw [uP] at h⊢
 obtain ⟨a,b,c,d,e,f⟩:=h
 refine ⟨a,b,c,?_,e,f⟩
 simp only [uR,Bool.and_eq_true,decide_eq_true_eq,List.all_append,List.all_cons,List.all_nil,Bool.and_true] at d⊢
 refine ⟨⟨d.1,by rw [qK]; omega⟩,by simp; omega⟩
theorem tJ {p:wR} {s:wC} {i:Nat} {t:jJ} {ok:Bool} {uT:Int} (h:wE p s=true) (hi:i<s.ths.length) (hr:t.regs.length=4) (hst:0≤t.st∧t.st≤2) (hat:0≤t.at_∧t.at_<(p.bods.getD i []).length) (hn:0≤uT):wE p (aB p s i t ok uT)=true:=by
 unfold aB
 split
 ·exact qD9 h hi (by simp only [vG,Bool.and_eq_true,decide_eq_true_eq,qK]; omega)
 ·rename_i hh
  have:uT<(p.bods.getD i []).length:=by
   rcases Int.lt_or_le uT (p.bods.getD i []).length with h1 | h1
   ·exact h1
   ·exact absurd (.inr h1) hh
  exact qD9 h hi (by simp only [vG,Bool.and_eq_true,decide_eq_true_eq,qK]; omega)
theorem qLy {c:bH} {v:Int} (h:vC c=true):vC (yF c v).1=true∧(yF c v).1.cap=c.cap:=by
 have h2:=qAz h
 rw [fA c v h]
 split
 ·exact ⟨h,rfl⟩
 ·split
  ·exact ⟨h,rfl⟩
  ·refine ⟨?_,rfl⟩
   simp only [vC,Bool.and_eq_true,qK,decide_eq_true_eq] at h⊢
   refine ⟨h.1,?_⟩
   simp
   omega
theorem qLw {c:bH} (h:vC c=true):vC (wI c).1=true∧(wI c).1.cap=c.cap:=by
 unfold wI
 rw [if_neg (by rw [h]; simp)]
 split
 ·refine ⟨?_,rfl⟩
  simp only [vC,Bool.and_eq_true,qK,decide_eq_true_eq] at h⊢
  refine ⟨h.1,?_⟩
  simp only [List.length_drop]
  omega
 ·split<;>exact ⟨h,rfl⟩
theorem qJ3 {c:bH} (h:vC c=true):vC (vQ c).1=true∧(vQ c).1.cap=c.cap:=by
 unfold vQ
 split
 ·exact ⟨h,rfl⟩
 ·exact ⟨h,rfl⟩
theorem qLx {t:jJ} {c:bH} {x:Ins} (h:vC c=true):vC (wV t c x).2.1=true∧(wV t c x).2.1.cap=c.cap:=by
 unfold wV
 split
 ·exact qLy h
 ·split
  ·exact qLw h
  ·exact qJ3 h
theorem qEj (t:jJ) (c:bH) (x:Ins):(wV t c x).1.regs.length=t.regs.length∧(wV t c x).1.st=t.st∧(wV t c x).1.at_=t.at_:=by
 unfold wV
 split
 ·simp only
  split<;>simp [yB]
 ·split
  ·simp only
   split<;>simp [yB]
  ·exact ⟨rfl,rfl,rfl⟩
theorem nQ {p:wR} {s:wC} {i:Nat} (h:wE p s=true) (hi:i<s.ths.length) (ht:(ins p s i).op=10→s.tr.length<4000):wE p (yA p s i)=true:=by
 have ha:=qRi h hi
 have e1:=ha.at0
 have e2:=ha.at1
 have e4:=ha.regs
 have hth:=((uP p s).1 h).2.2.2.2.1 i hi
 simp only [vG,Bool.and_eq_true,decide_eq_true_eq,qK] at hth
 obtain ⟨⟨_,hst⟩,hat⟩:=hth
 have hat':0≤(s.ths.getD i default).at_∧(s.ths.getD i default).at_<(p.bods.getD i []).length:=by omega
 have hself :∀r v,(yB (s.ths.getD i default) r v).regs.length=4:=fun r v=>by simp only [yB,List.length_set]; exact e4
 unfold yA
 split
 ·exact tJ h hi (hself _ _) hst hat' (by omega)
 split
 ·exact tJ h hi (hself _ _) hst hat' (by omega)
 split
 ·rename_i h10
  exact tJ (qX3 h ⟨by simp,by simp; exact hi⟩ (ht h10)) hi e4 hst hat' (by omega)
 split
 ·rename_i h11
  exact tJ h hi e4 hst hat' (ha.jm (.inl h11)).1
 split
 ·rename_i h12
  exact tJ h hi e4 hst hat' (by have:=(ha.jm (.inr h12)).1; split<;>omega)
 split
 ·exact qD9 h hi (by simp only [vG,Bool.and_eq_true,decide_eq_true_eq,qK]; omega)
 ·rename_i h1 h2 h10 h11 h12 h13
  obtain ⟨n0,n1⟩:=ha.ch (by have:=ha.op; omega) (by have:=ha.op; omega)
  have hc:=qKb h n1
  obtain ⟨q1,q2⟩:=qLx (t:=s.ths.getD i default) (x:=ins p s i) hc
  obtain ⟨r1,r2,r3⟩:=qEj (s.ths.getD i default) (s.chs.getD (ins p s i).n.toNat default) (ins p s i)
  exact tJ (qSe h n1 q1 q2) hi (by rw [r1]; exact e4) (by rw [r2]; exact hst) (by rw [r3]; exact hat') (by omega)
theorem rU {p:wR} {s:wC} (h:wE p s=true):kL s:=by
 have hn:=iY h
 rw [uP] at h
 obtain ⟨a,b,c,d,e,f⟩:=h
 simp only [jQ,Bool.and_eq_true,decide_eq_true_eq,qK] at a
 refine ⟨by omega,by omega,by omega,fun t ht=>?_,fun c' hc'=>?_⟩
 ·obtain ⟨i,hi,rfl⟩:=List.getElem_of_mem ht
  have:=e i hi
  simp only [vG,Bool.and_eq_true,decide_eq_true_eq] at this
  have hg:s.ths.getD i default=s.ths[i]:=by simp [List.getD_eq_getElem?_getD,hi]
  rw [hg] at this
  omega
 ·obtain ⟨i,hi,rfl⟩:=List.getElem_of_mem hc'
  have:=qAz (f i hi).1
  have h2:=(f i hi).1
  simp only [vC,Bool.and_eq_true,qK] at h2
  have hg:s.chs.getD i default=s.chs[i]:=by simp [List.getD_eq_getElem?_getD,hi]
  rw [hg] at this h2
  omega
theorem fI (l:List Int) (n:Int):wT l++[[.int .i64 n]]=wT (l++[n]):=by simp [wT]
def xM (p:wR) (st:wC×List Int) (who:Int):wC×List Int:=((wZ p st.1 who).1,st.2++[(wZ p st.1 who).2])
def qXm (p:wR) (s:wC) (picks:List Int):wC×List Int:=picks.foldl (xM p) (s,[])
def xB (p:wR) (s:wC) (picks:List Int):wC×List Int:=if wE p s&&decide ((picks.length:Int)≤4000) then qXm p s picks else (s,[])
theorem iC {p:wR} {s:wC} (who:Int) (h:wE p s=true):wE p (wZ p s who).1=true:=by
 unfold wZ
 split
 ·rename_i hc
  obtain ⟨w0,w1⟩:=qRh hc
  refine nQ h w1 fun h10=>?_
  have hn:=iY h
  unfold jI at hc
  split at hc
  ·simp at hc
  ·split at hc
   ·simp at hc
   ·rename_i hx
    have :¬(s.tr.length:Int)=4000:=fun e=>hx (.inr ⟨h10,e⟩)
    omega
 ·exact h
theorem qFt {p:wR} {s:wC} (h:wE p s=true) (picks:List Int) :∀i,i≤picks.length→wE p ((picks.take i).foldl (xM p) (s,[])).1=true∧((picks.take i).foldl (xM p) (s,[])).2.length=i
 | 0,_=>⟨h,rfl⟩
 | i+1,hi=>by
  have ih:=qFt h picks i (by omega)
  rw [uH picks 0 i (by omega),List.foldl_append]
  exact ⟨iC _ ih.1,by simp only [List.foldl_cons,List.foldl_nil,xM,List.length_append,ih.2]; rfl⟩
theorem qU5 (p:wR) (picks:List Int) (i:Nat) (h:i<picks.length) (st:wC×List Int):(picks.take (i+1)).foldl (xM p) st=xM p ((picks.take i).foldl (xM p) st) (picks.getD i 0):=by
 rw [uH picks 0 i h,List.foldl_append]
 rfl
end Go.Sep
