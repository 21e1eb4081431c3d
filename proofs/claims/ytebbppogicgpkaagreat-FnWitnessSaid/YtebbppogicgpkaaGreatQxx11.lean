/- Contracts of functions. -/
import Derived.Test.YtebbppogicgpkaaGreatQxx6
namespace Go.Sep
set_option maxHeartbeats 16000000
open Go.Proofs
set_option linter.unusedSimpArgs false
set_option linter.unusedVariables false
set_option maxRecDepth 100000
theorem qAk (p:Prog) (s:Source):sourceOk p s=true↔progOk p=true∧s.ths.length=p.bods.length∧s.chs.length=p.caps.length∧notesOk s.tr s.ths.length=true∧
  (∀i,i<s.ths.length→threadOk (p.bods.getD i []) (s.ths.getD i default)=true)∧(∀j,j<s.chs.length→chanOk (s.chs.getD j default)=true∧(s.chs.getD j default).cap=p.caps.getD j 0):=by
 simp only [sourceOk,Bool.and_eq_true,decide_eq_true_eq,List.all_eq_true,List.mem_range]
 constructor
 ·rintro ⟨⟨⟨⟨⟨a,b⟩,c⟩,d⟩,e⟩,f⟩
  exact ⟨a,b,c,d,e,f⟩
 ·rintro ⟨a,b,c,d,e,f⟩
  exact ⟨⟨⟨⟨⟨a,b⟩,c⟩,d⟩,e⟩,f⟩
theorem getD_set_of {α:Type} (l:List α) (i j:Nat) (x d:α) (h:i<l.length):(l.set i x).getD j d=if j=i then x else l.getD j d:=by
 simp only [List.getD_eq_getElem?_getD,List.getElem?_set]
 by_cases hij:i=j
 ·subst hij
  simp [h]
 ·simp [hij,Ne.symm hij]
theorem ok_set_th {p:Prog} {s:Source} {i:Nat} {t:Thread} (h:sourceOk p s=true) (hi:i<s.ths.length) (ht:threadOk (p.bods.getD i []) t=true):sourceOk p ⟨s.ths.set i t,s.chs,s.tr⟩=true:=by
 rw [qAk] at h⊢
 obtain ⟨a,b,c,d,e,f⟩:=h
 refine ⟨a,by simpa using b,c,by simpa using d,fun j hj=>?_,f⟩
 simp only at hj⊢
 rw [getD_set_of _ _ _ _ _ hi]
 split
 ·rename_i hji; rw [hji]; exact ht
 ·exact e j (by simpa using hj)
theorem ok_set_ch {p:Prog} {s:Source} {j:Nat} {c':Chan} (h:sourceOk p s=true) (hj:j<s.chs.length) (hc:chanOk c'=true) (hcap:c'.cap=(s.chs.getD j default).cap):sourceOk p ⟨s.ths,s.chs.set j c',s.tr⟩=true:=by
 rw [qAk] at h⊢
 obtain ⟨a,b,c,d,e,f⟩:=h
 refine ⟨a,b,by simpa using c,d,e,fun k hk=>?_⟩
 simp only at hk⊢
 rw [getD_set_of _ _ _ _ _ hj]
 split
 ·rename_i hkj; rw [hkj]; exact ⟨hc,by rw [hcap]; exact (f j hj).2⟩
 ·exact f k (by simpa using hk)
theorem ok_add {p:Prog} {s:Source} {n:Note} (h:sourceOk p s=true) (hn:0≤n.who∧n.who<s.ths.length) (hl:s.tr.length<4000):sourceOk p ⟨s.ths,s.chs,s.tr++[n]⟩=true:=by
 rw [qAk] at h⊢
 obtain ⟨a,b,c,d,e,f⟩:=h
 refine ⟨a,b,c,?_,e,f⟩
 simp only [notesOk,Bool.and_eq_true,decide_eq_true_eq,List.all_append,List.all_cons,List.all_nil,Bool.and_true] at d⊢
 refine ⟨⟨d.1,by rw [within_iff]; omega⟩,by simp; omega⟩
theorem ok_goTo {p:Prog} {s:Source} {i:Nat} {t:Thread} {ok:Bool} {next:Int} (h:sourceOk p s=true) (hi:i<s.ths.length) (hr:t.regs.length=4) (hst:0≤t.st∧t.st≤2) (hat:0≤t.at_∧t.at_<(p.bods.getD i []).length) (hn:0≤next):sourceOk p (goTo p s i t ok next)=true:=by
 unfold goTo
 split
 ·exact ok_set_th h hi (by simp only [threadOk,Bool.and_eq_true,decide_eq_true_eq,within_iff]; omega)
 ·rename_i hh
  have:next<(p.bods.getD i []).length:=by
   rcases Int.lt_or_le next (p.bods.getD i []).length with h1 | h1
   ·exact h1
   ·exact absurd (.inr h1) hh
  exact ok_set_th h hi (by simp only [threadOk,Bool.and_eq_true,decide_eq_true_eq,within_iff]; omega)
theorem chanSend_ok' {c:Chan} {v:Int} (h:chanOk c=true):chanOk (chanSend c v).1=true∧(chanSend c v).1.cap=c.cap:=by
 have h2:=chanOk_cap h
 rw [codes_send c v h]
 split
 ·exact ⟨h,rfl⟩
 ·split
  ·exact ⟨h,rfl⟩
  ·refine ⟨?_,rfl⟩
   simp only [chanOk,Bool.and_eq_true,within_iff,decide_eq_true_eq] at h⊢
   refine ⟨h.1,?_⟩
   simp
   omega
theorem chanTake_ok' {c:Chan} (h:chanOk c=true):chanOk (chanTake c).1=true∧(chanTake c).1.cap=c.cap:=by
 unfold chanTake
 rw [if_neg (by rw [h]; simp)]
 split
 ·refine ⟨?_,rfl⟩
  simp only [chanOk,Bool.and_eq_true,within_iff,decide_eq_true_eq] at h⊢
  refine ⟨h.1,?_⟩
  simp only [List.length_drop]
  omega
 ·split<;>exact ⟨h,rfl⟩
theorem chanClose_ok' {c:Chan} (h:chanOk c=true):chanOk (chanClose c).1=true∧(chanClose c).1.cap=c.cap:=by
 unfold chanClose
 split
 ·exact ⟨h,rfl⟩
 ·exact ⟨h,rfl⟩
theorem chanStep_ok' {t:Thread} {c:Chan} {x:Ins} (h:chanOk c=true):chanOk (chanStep t c x).2.1=true∧(chanStep t c x).2.1.cap=c.cap:=by
 unfold chanStep
 split
 ·exact chanSend_ok' h
 ·split
  ·exact chanTake_ok' h
  ·exact chanClose_ok' h
theorem chanStep_th (t:Thread) (c:Chan) (x:Ins):(chanStep t c x).1.regs.length=t.regs.length∧(chanStep t c x).1.st=t.st∧(chanStep t c x).1.at_=t.at_:=by
 unfold chanStep
 split
 ·simp only
  split<;>simp [setReg]
 ·split
  ·simp only
   split<;>simp [setReg]
  ·exact ⟨rfl,rfl,rfl⟩
theorem sourceOk_step {p:Prog} {s:Source} {i:Nat} (h:sourceOk p s=true) (hi:i<s.ths.length) (ht:(ins p s i).op=10→s.tr.length<4000):sourceOk p (doStep p s i)=true:=by
 have ha:=at_of h hi
 have e1:=ha.at0
 have e2:=ha.at1
 have e4:=ha.regs
 have hth:=((qAk p s).1 h).2.2.2.2.1 i hi
 simp only [threadOk,Bool.and_eq_true,decide_eq_true_eq,within_iff] at hth
 obtain ⟨⟨_,hst⟩,hat⟩:=hth
 have hat':0≤(s.ths.getD i default).at_∧(s.ths.getD i default).at_<(p.bods.getD i []).length:=by omega
 have hself :∀r v,(setReg (s.ths.getD i default) r v).regs.length=4:=fun r v=>by simp only [setReg,List.length_set]; exact e4
 unfold doStep
 split
 ·exact ok_goTo h hi (hself _ _) hst hat' (by omega)
 split
 ·exact ok_goTo h hi (hself _ _) hst hat' (by omega)
 split
 ·rename_i h10
  exact ok_goTo (ok_add h ⟨by simp,by simp; exact hi⟩ (ht h10)) hi e4 hst hat' (by omega)
 split
 ·rename_i h11
  exact ok_goTo h hi e4 hst hat' (ha.jm (.inl h11)).1
 split
 ·rename_i h12
  exact ok_goTo h hi e4 hst hat' (by have:=(ha.jm (.inr h12)).1; split<;>omega)
 split
 ·exact ok_set_th h hi (by simp only [threadOk,Bool.and_eq_true,decide_eq_true_eq,within_iff]; omega)
 ·rename_i h1 h2 h10 h11 h12 h13
  obtain ⟨n0,n1⟩:=ha.ch (by have:=ha.op; omega) (by have:=ha.op; omega)
  have hc:=chanAt_ok h n1
  obtain ⟨q1,q2⟩:=chanStep_ok' (t:=s.ths.getD i default) (x:=ins p s i) hc
  obtain ⟨r1,r2,r3⟩:=chanStep_th (s.ths.getD i default) (s.chs.getD (ins p s i).n.toNat default) (ins p s i)
  exact ok_goTo (ok_set_ch h n1 q1 q2) hi (by rw [r1]; exact e4) (by rw [r2]; exact hst) (by rw [r3]; exact hat') (by omega)
theorem ints_snoc (l:List Int) (n:Int):ints l++[[.int .i64 n]]=ints (l++[n]):=by simp [ints]
def runStep (p:Prog) (st:Source×List Int) (who:Int):Source×List Int:=((sourceStep p st.1 who).1,st.2++[(sourceStep p st.1 who).2])
def runF (p:Prog) (s:Source) (picks:List Int):Source×List Int:=picks.foldl (runStep p) (s,[])
def sourceRun (p:Prog) (s:Source) (picks:List Int):Source×List Int:=if sourceOk p s&&decide ((picks.length:Int)≤4000) then runF p s picks else (s,[])
theorem sourceStep_keeps {p:Prog} {s:Source} (who:Int) (h:sourceOk p s=true):sourceOk p (sourceStep p s who).1=true:=by
 unfold sourceStep
 split
 ·rename_i hc
  obtain ⟨w0,w1⟩:=code_in hc
  refine sourceOk_step h w1 fun h10=>?_
  have hn:=notesOk_len h
  unfold sourceCode at hc
  split at hc
  ·simp at hc
  ·split at hc
   ·simp at hc
   ·rename_i hx
    have :¬(s.tr.length:Int)=4000:=fun e=>hx (.inr ⟨h10,e⟩)
    omega
 ·exact h
end Go.Sep
