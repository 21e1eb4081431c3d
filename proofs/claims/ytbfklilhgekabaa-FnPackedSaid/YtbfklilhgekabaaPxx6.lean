/- Contracts of functions. -/
import Derived.Test.YtbfklilhgekabaaPxx5
open Bool renaming and_eq_true → qXa
open List renaming getD_eq_getElem?_getD → qXc
namespace Go.Sep
set_option maxHeartbeats 16000000
open Go.Proofs
set_option linter.unusedSimpArgs false
set_option linter.unusedVariables false
set_option maxRecDepth 100000
@[simp] def qWw (s:qR):AV:=.agg [.ns 0 0 s.ths.length,.ns 1 0 s.chs.length,.ns 2 0 s.tr.length]
@[simp] def qWx (s:qR):FP:=[(0,some (3,yB .own s.ths),none),(1,some (3,qZ .own s.chs),none),(2,some (2,yR s.tr),none)]
theorem qMz (c:jP) (v:Int) (h:jJ c=true):yA c v=if c.closed then (c,2) else if (c.list.length:Int)=c.cap then (c,1) else ({c with list:=c.list++[v]},0):=by
 unfold yA
 cases hc:c.closed<;>simp [-qXc,h]
theorem qQy {p:wJ} {s:qR} (h:qW p s=true) {j:Nat} (hj:j<s.chs.length):jJ (s.chs.getD j default)=true:=by
 simp only [qW,qXa] at h
 have:=List.all_eq_true.1 h.2 j (List.mem_range.2 hj)
 simp only [qXa] at this
 exact this.1
theorem qEb {c:jP} (h:jJ c=true):1≤c.cap∧(c.list.length:Int)≤c.cap:=by
 simp only [jJ,qXa,qK,decide_eq_true_eq] at h
 omega
theorem mL {p:wJ} {s:qR} (h:qW p s=true):s.tr.length≤4000:=by
 simp only [qW,dW,qXa,decide_eq_true_eq] at h
 omega
theorem aF {α:Type} (l:List α) (d:α) (i:Nat) (h:i<l.length):l.take (i+1)=l.take i++[l.getD i d]:=by
 rw [List.take_succ_eq_append_getElem h]
 simp [qXc,h]
def pH {α:Type} (w:α→Nat):List α→Nat
 | []=>0
 | a::l=>w a+pH w l
def mks {α:Type} (w:α→Nat) (f:Int→α→α):Int→List α→List α
 | _,[]=>[]
 | k,a::l=>f k a::mks w f (k+w a) l
@[simp] theorem qMd {α:Type} (w:α→Nat) (f:Int→α→α) :∀(k:Int) (l:List α),(mks w f k l).length=l.length
 | _,[]=>rfl
 | k,b::l=>by simp [mks,qMd]
@[simp] theorem qWe {α:Type} (w:α→Nat) (f:Int→α→α) (k:Int) (l:List α):(mks w f k l).take l.length=mks w f k l:=List.take_of_length_le (by simp)
def qW9 (_x:bB):Nat:=2
def qQ0 (k:Int) (_x:bB):bB:=⟨k,k+1⟩
theorem yW (p:wJ) (s:qR):qW p s=true↔jB p=true∧s.ths.length=p.bods.length∧s.chs.length=p.caps.length∧dW s.tr s.ths.length=true∧
  (∀i,i<s.ths.length→vR (p.bods.getD i []) (s.ths.getD i default)=true)∧(∀j,j<s.chs.length→jJ (s.chs.getD j default)=true∧(s.chs.getD j default).cap=p.caps.getD j 0):=by
 simp only [qW,qXa,decide_eq_true_eq,List.all_eq_true,List.mem_range]
 constructor
 ·rintro ⟨⟨⟨⟨⟨a,b⟩,c⟩,d⟩,e⟩,f⟩
  exact ⟨a,b,c,d,e,f⟩
 ·rintro ⟨a,b,c,d,e,f⟩
  exact ⟨⟨⟨⟨⟨a,b⟩,c⟩,d⟩,e⟩,f⟩
theorem fH {α:Type} (l:List α) (i j:Nat) (x d:α) (h:i<l.length):(l.set i x).getD j d=if j=i then x else l.getD j d:=by
 simp only [qXc,List.getElem?_set]
 by_cases hij:i=j
 ·subst hij
  simp [h]
 ·simp [hij,Ne.symm hij]
theorem qAa {p:wJ} {s:qR} {i:Nat} {t:yH} (h:qW p s=true) (hi:i<s.ths.length) (ht:vR (p.bods.getD i []) t=true):qW p ⟨s.ths.set i t,s.chs,s.tr⟩=true:=by
 rw [yW] at h⊢
 obtain ⟨a,b,c,d,e,f⟩:=h
 refine ⟨a,by simpa using b,c,by simpa using d,fun j hj=>?_,f⟩
 simp only at hj⊢
 rw [fH _ _ _ _ _ hi]
 split
 ·rename_i hji; rw [hji]; exact ht
 ·exact e j (by simpa using hj)
theorem qPp {p:wJ} {s:qR} {j:Nat} {c':jP} (h:qW p s=true) (hj:j<s.chs.length) (hc:jJ c'=true) (hcap:c'.cap=(s.chs.getD j default).cap):qW p ⟨s.ths,s.chs.set j c',s.tr⟩=true:=by
 rw [yW] at h⊢
 obtain ⟨a,b,c,d,e,f⟩:=h
 refine ⟨a,b,by simpa using c,d,e,fun k hk=>?_⟩
 simp only at hk⊢
 rw [fH _ _ _ _ _ hj]
 split
 ·rename_i hkj; rw [hkj]; exact ⟨hc,by rw [hcap]; exact (f j hj).2⟩
 ·exact f k (by simpa using hk)
theorem qVs {p:wJ} {s:qR} {n:bB} (h:qW p s=true) (hn:0≤n.who∧n.who<s.ths.length) (hl:s.tr.length<4000):qW p ⟨s.ths,s.chs,s.tr++[n]⟩=true:=by
 rw [yW] at h⊢
 obtain ⟨a,b,c,d,e,f⟩:=h
 refine ⟨a,b,c,?_,e,f⟩
 simp only [dW,qXa,decide_eq_true_eq,List.all_append,List.all_cons,List.all_nil,Bool.and_true] at d⊢
 refine ⟨⟨d.1,by rw [qK]; omega⟩,by simp; omega⟩
theorem nZ {p:wJ} {s:qR} {i:Nat} {t:yH} {ok:Bool} {next:Int} (h:qW p s=true) (hi:i<s.ths.length) (hr:t.regs.length=4) (hst:0≤t.st∧t.st≤2) (hat:0≤t.at_∧t.at_<(p.bods.getD i []).length) (hn:0≤next):qW p (vF p s i t ok next)=true:=by
 unfold vF
 split
 ·exact qAa h hi (by simp only [vR,qXa,decide_eq_true_eq,qK]; omega)
 ·rename_i hh
  have:next<(p.bods.getD i []).length:=by
   rcases Int.lt_or_le next (p.bods.getD i []).length with h1 | h1
   ·exact h1
   ·exact absurd (.inr h1) hh
  exact qAa h hi (by simp only [vR,qXa,decide_eq_true_eq,qK]; omega)
theorem qIp {c:jP} {v:Int} (h:jJ c=true):jJ (yA c v).1=true∧(yA c v).1.cap=c.cap:=by
 have h2:=qEb h
 rw [qMz c v h]
 split
 ·exact ⟨h,rfl⟩
 ·split
  ·exact ⟨h,rfl⟩
  ·refine ⟨?_,rfl⟩
   simp only [jJ,qXa,qK,decide_eq_true_eq] at h⊢
   refine ⟨h.1,?_⟩
   simp
   omega
theorem qIn {c:jP} (h:jJ c=true):jJ (wE c).1=true∧(wE c).1.cap=c.cap:=by
 unfold wE
 rw [if_neg (by rw [h]; simp)]
 split
 ·refine ⟨?_,rfl⟩
  simp only [jJ,qXa,qK,decide_eq_true_eq] at h⊢
  refine ⟨h.1,?_⟩
  simp only [List.length_drop]
  omega
 ·split<;>exact ⟨h,rfl⟩
theorem qFj {c:jP} (h:jJ c=true):jJ (vB c).1=true∧(vB c).1.cap=c.cap:=by
 unfold vB
 split
 ·exact ⟨h,rfl⟩
 ·exact ⟨h,rfl⟩
theorem qIo {t:yH} {c:jP} {x:Ins} (h:jJ c=true):jJ (qU t c x).2.1=true∧(qU t c x).2.1.cap=c.cap:=by
 unfold qU
 split
 ·exact qIp h
 ·split
  ·exact qIn h
  ·exact qFj h
theorem qBo (t:yH) (c:jP) (x:Ins):(qU t c x).1.regs.length=t.regs.length∧(qU t c x).1.st=t.st∧(qU t c x).1.at_=t.at_:=by
 unfold qU
 split
 ·simp only
  split<;>simp [wR]
 ·split
  ·simp only
   split<;>simp [wR]
  ·exact ⟨rfl,rfl,rfl⟩
theorem fX {p:wJ} {s:qR} {i:Nat} (h:qW p s=true) (hi:i<s.ths.length) (ht:(ins p s i).op=10→s.tr.length<4000):qW p (wD p s i)=true:=by
 have ha:=tK h hi
 have e1:=ha.at0
 have e2:=ha.at1
 have e4:=ha.regs
 have hth:=((yW p s).1 h).2.2.2.2.1 i hi
 simp only [vR,qXa,decide_eq_true_eq,qK] at hth
 obtain ⟨⟨_,hst⟩,hat⟩:=hth
 have hat':0≤(s.ths.getD i default).at_∧(s.ths.getD i default).at_<(p.bods.getD i []).length:=by omega
 have hself :∀r v,(wR (s.ths.getD i default) r v).regs.length=4:=fun r v=>by simp only [wR,List.length_set]; exact e4
 unfold wD
 split
 ·exact nZ h hi (hself _ _) hst hat' (by omega)
 split
 ·exact nZ h hi (hself _ _) hst hat' (by omega)
 split
 ·rename_i h10
  exact nZ (qVs h ⟨by simp,by simp; exact hi⟩ (ht h10)) hi e4 hst hat' (by omega)
 split
 ·rename_i h11
  exact nZ h hi e4 hst hat' (ha.jm (.inl h11)).1
 split
 ·rename_i h12
  exact nZ h hi e4 hst hat' (by have:=(ha.jm (.inr h12)).1; split<;>omega)
 split
 ·exact qAa h hi (by simp only [vR,qXa,decide_eq_true_eq,qK]; omega)
 ·rename_i h1 h2 h10 h11 h12 h13
  obtain ⟨n0,n1⟩:=ha.ch (by have:=ha.op; omega) (by have:=ha.op; omega)
  have hc:=qQy h n1
  obtain ⟨q1,q2⟩:=qIo (t:=s.ths.getD i default) (x:=ins p s i) hc
  obtain ⟨r1,r2,r3⟩:=qBo (s.ths.getD i default) (s.chs.getD (ins p s i).n.toNat default) (ins p s i)
  exact nZ (qPp h n1 q1 q2) hi (by rw [r1]; exact e4) (by rw [r2]; exact hst) (by rw [r3]; exact hat') (by omega)
theorem lX {p:wJ} {s:qR} (h:qW p s=true):qH5 s:=by
 have hn:=mL h
 rw [yW] at h
 obtain ⟨a,b,c,d,e,f⟩:=h
 simp only [jB,qXa,decide_eq_true_eq,qK] at a
 refine ⟨by omega,by omega,by omega,fun t ht=>?_,fun c' hc'=>?_⟩
 ·obtain ⟨i,hi,rfl⟩:=List.getElem_of_mem ht
  have:=e i hi
  simp only [vR,qXa,decide_eq_true_eq] at this
  have hg:s.ths.getD i default=s.ths[i]:=by simp [qXc,hi]
  rw [hg] at this
  omega
 ·obtain ⟨i,hi,rfl⟩:=List.getElem_of_mem hc'
  have:=qEb (f i hi).1
  have h2:=(f i hi).1
  simp only [jJ,qXa,qK] at h2
  have hg:s.chs.getD i default=s.chs[i]:=by simp [qXc,hi]
  rw [hg] at this h2
  omega
theorem qQd (l:List Int) (n:Int):yF l++[[.int .i64 n]]=yF (l++[n]):=by simp [yF]
theorem aG {p:wJ} {s:qR} (who:Int) (h:qW p s=true):qW p (qQ p s who).1=true:=by
 unfold qQ
 split
 ·rename_i hc
  obtain ⟨w0,w1⟩:=tD hc
  refine fX h w1 fun h10=>?_
  have hn:=mL h
  unfold wQ at hc
  split at hc
  ·simp at hc
  ·split at hc
   ·simp at hc
   ·rename_i hx
    have :¬(s.tr.length:Int)=4000:=fun e=>hx (.inr ⟨h10,e⟩)
    omega
 ·exact h
end Go.Sep
