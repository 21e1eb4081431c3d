/- Contracts of functions. -/
import Derived.Test.YtbfklilhgekabaaNxx5
open Bool renaming and_eq_true → qX9
open List renaming getD_eq_getElem?_getD → qXb
namespace Go.Sep
set_option maxHeartbeats 16000000
open Go.Proofs
set_option linter.unusedSimpArgs false
set_option linter.unusedVariables false
set_option maxRecDepth 100000
@[simp] def qWv (s:qW):AV:=.agg [.ns 0 0 s.ths.length,.ns 1 0 s.chs.length,.ns 2 0 s.tr.length]
@[simp] def qWw (s:qW):FP:=[(0,some (3,wR .own s.ths),none),(1,some (3,wC .own s.chs),none),(2,some (2,jK s.tr),none)]
theorem qNg (c:vA) (v:Int) (h:jQ c=true):yE c v=if c.closed then (c,2) else if (c.list.length:Int)=c.cap then (c,1) else ({c with list:=c.list++[v]},0):=by
 unfold yE
 cases hc:c.closed<;>simp [-qXb,h]
theorem qR7 {p:yM} {s:qW} (h:wG p s=true) {j:Nat} (hj:j<s.chs.length):jQ (s.chs.getD j default)=true:=by
 simp only [wG,qX9] at h
 have:=List.all_eq_true.1 h.2 j (List.mem_range.2 hj)
 simp only [qX9] at this
 exact this.1
theorem qEo {c:vA} (h:jQ c=true):1≤c.cap∧(c.list.length:Int)≤c.cap:=by
 simp only [jQ,qX9,qK,decide_eq_true_eq] at h
 omega
def dN (p:yM) (s:qW) (who:Int):qW×Int:=if wG p s then wB p s who else (⟨[],[],[]⟩,1)
theorem mY {p:yM} {s:qW} (h:wG p s=true):s.tr.length≤4000:=by
 simp only [wG,zS,qX9,decide_eq_true_eq] at h
 omega
theorem iO {α:Type} (l:List α) (d:α) (i:Nat) (h:i<l.length):l.take (i+1)=l.take i++[l.getD i d]:=by
 rw [List.take_succ_eq_append_getElem h]
 simp [qXb,h]
def mF {α:Type} (w:α→Nat):List α→Nat
 | []=>0
 | a::l=>w a+mF w l
def mks {α:Type} (w:α→Nat) (f:Int→α→α):Int→List α→List α
 | _,[]=>[]
 | k,a::l=>f k a::mks w f (k+w a) l
@[simp] theorem qMp {α:Type} (w:α→Nat) (f:Int→α→α) :∀(k:Int) (l:List α),(mks w f k l).length=l.length
 | _,[]=>rfl
 | k,b::l=>by simp [mks,qMp]
@[simp] theorem qWf {α:Type} (w:α→Nat) (f:Int→α→α) (k:Int) (l:List α):(mks w f k l).take l.length=mks w f k l:=List.take_of_length_le (by simp)
def qWa (_x:gM):Nat:=2
def qQe (k:Int) (_x:gM):gM:=⟨k,k+1⟩
theorem yU (p:yM) (s:qW):wG p s=true↔uZ p=true∧s.ths.length=p.bods.length∧s.chs.length=p.caps.length∧zS s.tr s.ths.length=true∧
  (∀i,i<s.ths.length→vQ (p.bods.getD i []) (s.ths.getD i default)=true)∧(∀j,j<s.chs.length→jQ (s.chs.getD j default)=true∧(s.chs.getD j default).cap=p.caps.getD j 0):=by
 simp only [wG,qX9,decide_eq_true_eq,List.all_eq_true,List.mem_range]
 constructor
 ·rintro ⟨⟨⟨⟨⟨a,b⟩,c⟩,d⟩,e⟩,f⟩
  exact ⟨a,b,c,d,e,f⟩
 ·rintro ⟨a,b,c,d,e,f⟩
  exact ⟨⟨⟨⟨⟨a,b⟩,c⟩,d⟩,e⟩,f⟩
theorem fU {α:Type} (l:List α) (i j:Nat) (x d:α) (h:i<l.length):(l.set i x).getD j d=if j=i then x else l.getD j d:=by
 simp only [qXb,List.getElem?_set]
 by_cases hij:i=j
 ·subst hij
  simp [h]
 ·simp [hij,Ne.symm hij]
theorem qAe {p:yM} {s:qW} {i:Nat} {t:yT} (h:wG p s=true) (hi:i<s.ths.length) (ht:vQ (p.bods.getD i []) t=true):wG p ⟨s.ths.set i t,s.chs,s.tr⟩=true:=by
 rw [yU] at h⊢
 obtain ⟨a,b,c,d,e,f⟩:=h
 refine ⟨a,by simpa using b,c,by simpa using d,fun j hj=>?_,f⟩
 simp only at hj⊢
 rw [fU _ _ _ _ _ hi]
 split
 ·rename_i hji; rw [hji]; exact ht
 ·exact e j (by simpa using hj)
theorem qQ4 {p:yM} {s:qW} {j:Nat} {c':vA} (h:wG p s=true) (hj:j<s.chs.length) (hc:jQ c'=true) (hcap:c'.cap=(s.chs.getD j default).cap):wG p ⟨s.ths,s.chs.set j c',s.tr⟩=true:=by
 rw [yU] at h⊢
 obtain ⟨a,b,c,d,e,f⟩:=h
 refine ⟨a,b,by simpa using c,d,e,fun k hk=>?_⟩
 simp only at hk⊢
 rw [fU _ _ _ _ _ hj]
 split
 ·rename_i hkj; rw [hkj]; exact ⟨hc,by rw [hcap]; exact (f j hj).2⟩
 ·exact f k (by simpa using hk)
theorem qVr {p:yM} {s:qW} {n:gM} (h:wG p s=true) (hn:0≤n.who∧n.who<s.ths.length) (hl:s.tr.length<4000):wG p ⟨s.ths,s.chs,s.tr++[n]⟩=true:=by
 rw [yU] at h⊢
 obtain ⟨a,b,c,d,e,f⟩:=h
 refine ⟨a,b,c,?_,e,f⟩
 simp only [zS,qX9,decide_eq_true_eq,List.all_append,List.all_cons,List.all_nil,Bool.and_true] at d⊢
 refine ⟨⟨d.1,by rw [qK]; omega⟩,by simp; omega⟩
theorem oG {p:yM} {s:qW} {i:Nat} {t:yT} {ok:Bool} {next:Int} (h:wG p s=true) (hi:i<s.ths.length) (hr:t.regs.length=4) (hst:0≤t.st∧t.st≤2) (hat:0≤t.at_∧t.at_<(p.bods.getD i []).length) (hn:0≤next):wG p (vV p s i t ok next)=true:=by
 unfold vV
 split
 ·exact qAe h hi (by simp only [vQ,qX9,decide_eq_true_eq,qK]; omega)
 ·rename_i hh
  have:next<(p.bods.getD i []).length:=by
   rcases Int.lt_or_le next (p.bods.getD i []).length with h1 | h1
   ·exact h1
   ·exact absurd (.inr h1) hh
  exact qAe h hi (by simp only [vQ,qX9,decide_eq_true_eq,qK]; omega)
theorem qJ5 {c:vA} {v:Int} (h:jQ c=true):jQ (yE c v).1=true∧(yE c v).1.cap=c.cap:=by
 have h2:=qEo h
 rw [qNg c v h]
 split
 ·exact ⟨h,rfl⟩
 ·split
  ·exact ⟨h,rfl⟩
  ·refine ⟨?_,rfl⟩
   simp only [jQ,qX9,qK,decide_eq_true_eq] at h⊢
   refine ⟨h.1,?_⟩
   simp
   omega
theorem qJ3 {c:vA} (h:jQ c=true):jQ (wI c).1=true∧(wI c).1.cap=c.cap:=by
 unfold wI
 rw [if_neg (by rw [h]; simp)]
 split
 ·refine ⟨?_,rfl⟩
  simp only [jQ,qX9,qK,decide_eq_true_eq] at h⊢
  refine ⟨h.1,?_⟩
  simp only [List.length_drop]
  omega
 ·split<;>exact ⟨h,rfl⟩
theorem qG3 {c:vA} (h:jQ c=true):jQ (vH c).1=true∧(vH c).1.cap=c.cap:=by
 unfold vH
 split
 ·exact ⟨h,rfl⟩
 ·exact ⟨h,rfl⟩
theorem qJ4 {t:yT} {c:vA} {x:Ins} (h:jQ c=true):jQ (qV t c x).2.1=true∧(qV t c x).2.1.cap=c.cap:=by
 unfold qV
 split
 ·exact qJ5 h
 ·split
  ·exact qJ3 h
  ·exact qG3 h
theorem qBs (t:yT) (c:vA) (x:Ins):(qV t c x).1.regs.length=t.regs.length∧(qV t c x).1.st=t.st∧(qV t c x).1.at_=t.at_:=by
 unfold qV
 split
 ·simp only
  split<;>simp [wU]
 ·split
  ·simp only
   split<;>simp [wU]
  ·exact ⟨rfl,rfl,rfl⟩
theorem iB {p:yM} {s:qW} {i:Nat} (h:wG p s=true) (hi:i<s.ths.length) (ht:(ins p s i).op=10→s.tr.length<4000):wG p (wQ p s i)=true:=by
 have ha:=qF0 h hi
 have e1:=ha.at0
 have e2:=ha.at1
 have e4:=ha.regs
 have hth:=((yU p s).1 h).2.2.2.2.1 i hi
 simp only [vQ,qX9,decide_eq_true_eq,qK] at hth
 obtain ⟨⟨_,hst⟩,hat⟩:=hth
 have hat':0≤(s.ths.getD i default).at_∧(s.ths.getD i default).at_<(p.bods.getD i []).length:=by omega
 have hself :∀r v,(wU (s.ths.getD i default) r v).regs.length=4:=fun r v=>by simp only [wU,List.length_set]; exact e4
 unfold wQ
 split
 ·exact oG h hi (hself _ _) hst hat' (by omega)
 split
 ·exact oG h hi (hself _ _) hst hat' (by omega)
 split
 ·rename_i h10
  exact oG (qVr h ⟨by simp,by simp; exact hi⟩ (ht h10)) hi e4 hst hat' (by omega)
 split
 ·rename_i h11
  exact oG h hi e4 hst hat' (ha.jm (.inl h11)).1
 split
 ·rename_i h12
  exact oG h hi e4 hst hat' (by have:=(ha.jm (.inr h12)).1; split<;>omega)
 split
 ·exact qAe h hi (by simp only [vQ,qX9,decide_eq_true_eq,qK]; omega)
 ·rename_i h1 h2 h10 h11 h12 h13
  obtain ⟨n0,n1⟩:=ha.ch (by have:=ha.op; omega) (by have:=ha.op; omega)
  have hc:=qR7 h n1
  obtain ⟨q1,q2⟩:=qJ4 (t:=s.ths.getD i default) (x:=ins p s i) hc
  obtain ⟨r1,r2,r3⟩:=qBs (s.ths.getD i default) (s.chs.getD (ins p s i).n.toNat default) (ins p s i)
  exact oG (qQ4 h n1 q1 q2) hi (by rw [r1]; exact e4) (by rw [r2]; exact hst) (by rw [r3]; exact hat') (by omega)
theorem qRx {p:yM} {s:qW} (h:wG p s=true):qHo s:=by
 have hn:=mY h
 rw [yU] at h
 obtain ⟨a,b,c,d,e,f⟩:=h
 simp only [uZ,qX9,decide_eq_true_eq,qK] at a
 refine ⟨by omega,by omega,by omega,fun t ht=>?_,fun c' hc'=>?_⟩
 ·obtain ⟨i,hi,rfl⟩:=List.getElem_of_mem ht
  have:=e i hi
  simp only [vQ,qX9,decide_eq_true_eq] at this
  have hg:s.ths.getD i default=s.ths[i]:=by simp [qXb,hi]
  rw [hg] at this
  omega
 ·obtain ⟨i,hi,rfl⟩:=List.getElem_of_mem hc'
  have:=qEo (f i hi).1
  have h2:=(f i hi).1
  simp only [jQ,qX9,qK] at h2
  have hg:s.chs.getD i default=s.chs[i]:=by simp [qXb,hi]
  rw [hg] at this h2
  omega
theorem qGy (l:List Int) (n:Int):wT l++[[.int .i64 n]]=wT (l++[n]):=by simp [wT]
theorem tZ {p:yM} {s:qW} (who:Int) (h:wG p s=true):wG p (wB p s who).1=true:=by
 unfold wB
 split
 ·rename_i hc
  obtain ⟨w0,w1⟩:=qCj hc
  refine iB h w1 fun h10=>?_
  have hn:=mY h
  unfold yJ at hc
  split at hc
  ·simp at hc
  ·split at hc
   ·simp at hc
   ·rename_i hx
    have :¬(s.tr.length:Int)=4000:=fun e=>hx (.inr ⟨h10,e⟩)
    omega
 ·exact h
end Go.Sep
