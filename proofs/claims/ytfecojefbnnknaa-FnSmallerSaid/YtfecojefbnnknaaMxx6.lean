/- Contracts of functions. -/
import Derived.Test.YtfecojefbnnknaaMxx5
open Bool renaming and_eq_true → wCs
open List renaming getD_eq_getElem?_getD → wCu
namespace Go.Sep
set_option maxHeartbeats 16000000
open Go.Proofs
set_option linter.unusedSimpArgs false
set_option linter.unusedVariables false
set_option maxRecDepth 100000
@[simp] def wCd (s:qU):AV:=.agg [.ns 0 0 s.ths.length,.ns 1 0 s.chs.length,.ns 2 0 s.tr.length]
@[simp] def wCe (s:qU):FP:=[(0,some (3,yJ .own s.ths),none),(1,some (3,wI .own s.chs),none),(2,some (2,jC s.tr),none)]
theorem qQt (c:jU) (v:Int) (h:jQ c=true):yF c v=if c.closed then (c,2) else if (c.list.length:Int)=c.cap then (c,1) else ({c with list:=c.list++[v]},0):=by
 unfold yF
 cases hc:c.closed<;>simp [-wCu,h]
theorem qVc {p:wK} {s:qU} (h:qZ p s=true) {j:Nat} (hj:j<s.chs.length):jQ (s.chs.getD j default)=true:=by
 simp only [qZ,wCs] at h
 have:=List.all_eq_true.1 h.2 j (List.mem_range.2 hj)
 simp only [wCs] at this
 exact this.1
theorem qH9 {c:jU} (h:jQ c=true):1≤c.cap∧(c.list.length:Int)≤c.cap:=by
 simp only [jQ,wCs,qK,decide_eq_true_eq] at h
 omega
theorem pA {p:wK} {s:qU} (h:qZ p s=true):s.tr.length≤4000:=by
 simp only [qZ,xC,wCs,decide_eq_true_eq] at h
 omega
theorem bG {α:Type} (l:List α) (d:α) (i:Nat) (h:i<l.length):l.take (i+1)=l.take i++[l.getD i d]:=by
 rw [List.take_succ_eq_append_getElem h]
 simp [wCu,h]
def sS {α:Type} (w:α→Nat):List α→Nat
 | []=>0
 | a::l=>w a+sS w l
def mks {α:Type} (w:α→Nat) (f:Int→α→α):Int→List α→List α
 | _,[]=>[]
 | k,a::l=>f k a::mks w f (k+w a) l
@[simp] theorem qQ4 {α:Type} (w:α→Nat) (f:Int→α→α) :∀(k:Int) (l:List α),(mks w f k l).length=l.length
 | _,[]=>rfl
 | k,b::l=>by simp [mks,qQ4]
@[simp] theorem wBu {α:Type} (w:α→Nat) (f:Int→α→α) (k:Int) (l:List α):(mks w f k l).take l.length=mks w f k l:=List.take_of_length_le (by simp)
def wBp (_x:bM):Nat:=2
def qUa (k:Int) (_x:bM):bM:=⟨k,k+1⟩
theorem jF (p:wK) (s:qU):qZ p s=true↔wY p=true∧s.ths.length=p.bods.length∧s.chs.length=p.caps.length∧xC s.tr s.ths.length=true∧
  (∀i,i<s.ths.length→vZ (p.bods.getD i []) (s.ths.getD i default)=true)∧(∀j,j<s.chs.length→jQ (s.chs.getD j default)=true∧(s.chs.getD j default).cap=p.caps.getD j 0):=by
 simp only [qZ,wCs,decide_eq_true_eq,List.all_eq_true,List.mem_range]
 constructor
 ·rintro ⟨⟨⟨⟨⟨a,b⟩,c⟩,d⟩,e⟩,f⟩
  exact ⟨a,b,c,d,e,f⟩
 ·rintro ⟨a,b,c,d,e,f⟩
  exact ⟨⟨⟨⟨⟨a,b⟩,c⟩,d⟩,e⟩,f⟩
theorem kJ {α:Type} (l:List α) (i j:Nat) (x d:α) (h:i<l.length):(l.set i x).getD j d=if j=i then x else l.getD j d:=by
 simp only [wCu,List.getElem?_set]
 by_cases hij:i=j
 ·subst hij
  simp [h]
 ·simp [hij,Ne.symm hij]
theorem qCd {p:wK} {s:qU} {i:Nat} {t:yO} (h:qZ p s=true) (hi:i<s.ths.length) (ht:vZ (p.bods.getD i []) t=true):qZ p ⟨s.ths.set i t,s.chs,s.tr⟩=true:=by
 rw [jF] at h⊢
 obtain ⟨a,b,c,d,e,f⟩:=h
 refine ⟨a,by simpa using b,c,by simpa using d,fun j hj=>?_,f⟩
 simp only at hj⊢
 rw [kJ _ _ _ _ _ hi]
 split
 ·rename_i hji; rw [hji]; exact ht
 ·exact e j (by simpa using hj)
theorem qTv {p:wK} {s:qU} {j:Nat} {c':jU} (h:qZ p s=true) (hj:j<s.chs.length) (hc:jQ c'=true) (hcap:c'.cap=(s.chs.getD j default).cap):qZ p ⟨s.ths,s.chs.set j c',s.tr⟩=true:=by
 rw [jF] at h⊢
 obtain ⟨a,b,c,d,e,f⟩:=h
 refine ⟨a,b,by simpa using c,d,e,fun k hk=>?_⟩
 simp only at hk⊢
 rw [kJ _ _ _ _ _ hj]
 split
 ·rename_i hkj; rw [hkj]; exact ⟨hc,by rw [hcap]; exact (f j hj).2⟩
 ·exact f k (by simpa using hk)
theorem wB7 {p:wK} {s:qU} {n:bM} (h:qZ p s=true) (hn:0≤n.who∧n.who<s.ths.length) (hl:s.tr.length<4000):qZ p ⟨s.ths,s.chs,s.tr++[n]⟩=true:=by
 rw [jF] at h⊢
 obtain ⟨a,b,c,d,e,f⟩:=h
 refine ⟨a,b,c,?_,e,f⟩
 simp only [xC,wCs,decide_eq_true_eq,List.all_append,List.all_cons,List.all_nil,Bool.and_true] at d⊢
 refine ⟨⟨d.1,by rw [qK]; omega⟩,by simp; omega⟩
theorem rL {p:wK} {s:qU} {i:Nat} {t:yO} {ok:Bool} {next:Int} (h:qZ p s=true) (hi:i<s.ths.length) (hr:t.regs.length=4) (hst:0≤t.st∧t.st≤2) (hat:0≤t.at_∧t.at_<(p.bods.getD i []).length) (hn:0≤next):qZ p (vG p s i t ok next)=true:=by
 unfold vG
 split
 ·exact qCd h hi (by simp only [vZ,wCs,decide_eq_true_eq,qK]; omega)
 ·rename_i hh
  have:next<(p.bods.getD i []).length:=by
   rcases Int.lt_or_le next (p.bods.getD i []).length with h1 | h1
   ·exact h1
   ·exact absurd (.inr h1) hh
  exact qCd h hi (by simp only [vZ,wCs,decide_eq_true_eq,qK]; omega)
theorem qM3 {c:jU} {v:Int} (h:jQ c=true):jQ (yF c v).1=true∧(yF c v).1.cap=c.cap:=by
 have h2:=qH9 h
 rw [qQt c v h]
 split
 ·exact ⟨h,rfl⟩
 ·split
  ·exact ⟨h,rfl⟩
  ·refine ⟨?_,rfl⟩
   simp only [jQ,wCs,qK,decide_eq_true_eq] at h⊢
   refine ⟨h.1,?_⟩
   simp
   omega
theorem qM1 {c:jU} (h:jQ c=true):jQ (wQ c).1=true∧(wQ c).1.cap=c.cap:=by
 unfold wQ
 rw [if_neg (by rw [h]; simp)]
 split
 ·refine ⟨?_,rfl⟩
  simp only [jQ,wCs,qK,decide_eq_true_eq] at h⊢
  refine ⟨h.1,?_⟩
  simp only [List.length_drop]
  omega
 ·split<;>exact ⟨h,rfl⟩
theorem qIl {c:jU} (h:jQ c=true):jQ (vM c).1=true∧(vM c).1.cap=c.cap:=by
 unfold vM
 split
 ·exact ⟨h,rfl⟩
 ·exact ⟨h,rfl⟩
theorem qM2 {t:yO} {c:jU} {x:Ins} (h:jQ c=true):jQ (qY t c x).2.1=true∧(qY t c x).2.1.cap=c.cap:=by
 unfold qY
 split
 ·exact qM3 h
 ·split
  ·exact qM1 h
  ·exact qIl h
theorem qDy (t:yO) (c:jU) (x:Ins):(qY t c x).1.regs.length=t.regs.length∧(qY t c x).1.st=t.st∧(qY t c x).1.at_=t.at_:=by
 unfold qY
 split
 ·simp only
  split<;>simp [wW]
 ·split
  ·simp only
   split<;>simp [wW]
  ·exact ⟨rfl,rfl,rfl⟩
theorem lB {p:wK} {s:qU} {i:Nat} (h:qZ p s=true) (hi:i<s.ths.length) (ht:(ins p s i).op=10→s.tr.length<4000):qZ p (wH p s i)=true:=by
 have ha:=nY h hi
 have e1:=ha.at0
 have e2:=ha.at1
 have e4:=ha.regs
 have hth:=((jF p s).1 h).2.2.2.2.1 i hi
 simp only [vZ,wCs,decide_eq_true_eq,qK] at hth
 obtain ⟨⟨_,hst⟩,hat⟩:=hth
 have hat':0≤(s.ths.getD i default).at_∧(s.ths.getD i default).at_<(p.bods.getD i []).length:=by omega
 have hself :∀r v,(wW (s.ths.getD i default) r v).regs.length=4:=fun r v=>by simp only [wW,List.length_set]; exact e4
 unfold wH
 split
 ·exact rL h hi (hself _ _) hst hat' (by omega)
 split
 ·exact rL h hi (hself _ _) hst hat' (by omega)
 split
 ·rename_i h10
  exact rL (wB7 h ⟨by simp,by simp; exact hi⟩ (ht h10)) hi e4 hst hat' (by omega)
 split
 ·rename_i h11
  exact rL h hi e4 hst hat' (ha.jm (.inl h11)).1
 split
 ·rename_i h12
  exact rL h hi e4 hst hat' (by have:=(ha.jm (.inr h12)).1; split<;>omega)
 split
 ·exact qCd h hi (by simp only [vZ,wCs,decide_eq_true_eq,qK]; omega)
 ·rename_i h1 h2 h10 h11 h12 h13
  obtain ⟨n0,n1⟩:=ha.ch (by have:=ha.op; omega) (by have:=ha.op; omega)
  have hc:=qVc h n1
  obtain ⟨q1,q2⟩:=qM2 (t:=s.ths.getD i default) (x:=ins p s i) hc
  obtain ⟨r1,r2,r3⟩:=qDy (s.ths.getD i default) (s.chs.getD (ins p s i).n.toNat default) (ins p s i)
  exact rL (qTv h n1 q1 q2) hi (by rw [r1]; exact e4) (by rw [r2]; exact hst) (by rw [r3]; exact hat') (by omega)
theorem oK {p:wK} {s:qU} (h:qZ p s=true):qKf s:=by
 have hn:=pA h
 rw [jF] at h
 obtain ⟨a,b,c,d,e,f⟩:=h
 simp only [wY,wCs,decide_eq_true_eq,qK] at a
 refine ⟨by omega,by omega,by omega,fun t ht=>?_,fun c' hc'=>?_⟩
 ·obtain ⟨i,hi,rfl⟩:=List.getElem_of_mem ht
  have:=e i hi
  simp only [vZ,wCs,decide_eq_true_eq] at this
  have hg:s.ths.getD i default=s.ths[i]:=by simp [wCu,hi]
  rw [hg] at this
  omega
 ·obtain ⟨i,hi,rfl⟩:=List.getElem_of_mem hc'
  have:=qH9 (f i hi).1
  have h2:=(f i hi).1
  simp only [jQ,wCs,qK] at h2
  have hg:s.chs.getD i default=s.chs[i]:=by simp [wCu,hi]
  rw [hg] at this h2
  omega
theorem qJo (l:List Int) (n:Int):wR l++[[.int .i64 n]]=wR (l++[n]):=by simp [wR]
theorem gF {p:wK} {s:qU} (who:Int) (h:qZ p s=true):qZ p (qM p s who).1=true:=by
 unfold qM
 split
 ·rename_i hc
  obtain ⟨w0,w1⟩:=qBe hc
  refine lB h w1 fun h10=>?_
  have hn:=pA h
  unfold wC at hc
  split at hc
  ·simp at hc
  ·split at hc
   ·simp at hc
   ·rename_i hx
    have :¬(s.tr.length:Int)=4000:=fun e=>hx (.inr ⟨h10,e⟩)
    omega
 ·exact h
end Go.Sep
