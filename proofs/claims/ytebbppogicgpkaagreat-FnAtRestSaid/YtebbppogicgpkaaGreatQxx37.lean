/- Contracts of functions. -/
import Derived.Test.YtebbppogicgpkaaGreatQxx28
import Derived.Test.YtebbppogicgpkaaGreatQxx33
import Derived.Test.YtebbppogicgpkaaGreatQxx39
namespace Go.Sep
set_option maxHeartbeats 16000000
open Go.Proofs
set_option linter.unusedSimpArgs false
set_option linter.unusedVariables false
set_option maxRecDepth 100000
theorem mstep_other (m:Machine) (i:Nat) (late:Int) (j:Nat) (hj:j≠i):coreAt (mstep m ⟨(i:Int),late⟩).1 j=coreAt m j:=by
 have hg :∀(M:Machine) (K:Core) (n:Int),M.cores=m.cores→coreAt (goOn M i K n) j=coreAt m j:=by
  intro M K n hM
  have hb:coreAt M j=coreAt m j:=by unfold coreAt; rw [hM]
  unfold goOn
  split<;>rw [setK_other _ _ _ _ hj,hb]
 have hs :∀st,coreAt (stop m i st) j=coreAt m j:=fun st=>by unfold stop; rw [setK_other _ _ _ _ hj]
 unfold mstep
 split
 ·simp only [Int.toNat_natCast]
  unfold mdo
  simp only
  split
  ·exact hs 1
  split
  ·exact hs 2
  split
  ·split
   ·exact hg _ _ _ rfl
   ·exact hs 2
  split
  ·exact hg _ _ _ rfl
  ·exact hg _ _ _ rfl
 ·rfl
theorem mdo_pos {m:Machine} {i:Nat} {late:Int} (hi:i<m.cores.length) (h:mcode m i=0) :
  (coreAt (mdo m i late) i).st≠0∨(coreAt (mdo m i late) i).at_=(coreAt m i).at_+1∨(((stepAt m i).op=10∨(stepAt m i).op=11)∧(coreAt (mdo m i late) i).at_=(stepAt m i).n):=by
 have hg :∀(M:Machine) (K:Core) (next:Int),M.cores.length=m.cores.length→(next=(coreAt m i).at_+1∨(((stepAt m i).op=10∨(stepAt m i).op=11)∧next=(stepAt m i).n))→
   (coreAt (goOn M i K next) i).st≠0∨(coreAt (goOn M i K next) i).at_=(coreAt m i).at_+1∨(((stepAt m i).op=10∨(stepAt m i).op=11)∧(coreAt (goOn M i K next) i).at_=(stepAt m i).n):=by
  intro M K next hl hn
  unfold goOn
  split
  ·left
   rw [qAa M i _ (by omega)]
   exact (by decide:(2:Int)≠0)
  ·right
   rw [qAa M i _ (by omega)]
   exact hn
 have hstop :∀st:Int,st≠0→(coreAt (stop m i st) i).st≠0:=by
  intro st hst
  unfold stop
  rw [qAa m i _ hi]
  exact hst
 unfold mdo
 simp only
 split
 ·exact .inl (hstop 1 (by decide))
 split
 ·exact .inl (hstop 2 (by decide))
 split
 ·split
  ·exact hg _ _ _ rfl (.inl rfl)
  ·exact .inl (hstop 2 (by decide))
 split
 ·exact hg _ _ _ rfl (.inl rfl)
 ·refine hg _ _ _ rfl ?_
  unfold nextAt
  split
  ·rename_i h10
   exact .inr ⟨.inl h10,rfl⟩
  split
  ·rename_i h11
   exact .inr ⟨.inr h11.1,rfl⟩
  ·exact .inl rfl
def jumpsOk (f sz:Int):Nat→List Step→Prop
 | _,[]=>True
 | k,t::l=>((t.op=10∨t.op=11)→(t.n=f∨(f+k<t.n∧t.n≤f+sz)))∧jumpsOk f sz (k+1) l
theorem jumpsOk_at {f sz:Int} :∀(l:List Step) (k:Nat),jumpsOk f sz k l→∀i,i<l.length→((l.getD i default).op=10∨(l.getD i default).op=11)→((l.getD i default).n=f∨(f+(k+i:Nat)<(l.getD i default).n∧(l.getD i default).n≤f+sz))
 | [],_,_,i,hi,_=>absurd hi (Nat.not_lt_zero _)
 | t::l,k,h,0,_,ho=>h.1 ho
 | t::l,k,h,i+1,hi,ho=>by
  have:=jumpsOk_at l (k+1) h.2 i (by simpa using hi) ho
  rw [show k+(i+1)=k+1+i by omega]
  exact this
theorem place_jumpsOk {f b c:Int} {x:Ins} (hx:5≤x.op∧x.op≤9):jumpsOk f (emitSize x) 0 (placeL f b c x):=by
 have hc:x.op=5∨x.op=6∨x.op=7∨x.op=8∨x.op=9:=by omega
 rcases hc with ho | ho | ho | ho | ho
 all_goals (
  simp [placeL,ho,lockL,sendL,takeL,closeL,shutL,letL,emitSize,jumpsOk,numb]
  try omega)
theorem place_jumps {f b c:Int} {x:Ins} (hx:5≤x.op∧x.op≤9) {k:Nat} (hk:k<(placeL f b c x).length) (h:((placeL f b c x).getD k default).op=10∨((placeL f b c x).getD k default).op=11) :
  ((placeL f b c x).getD k default).n=f∨(f+k<((placeL f b c x).getD k default).n∧((placeL f b c x).getD k default).n≤f+emitSize x):=by
 have:=jumpsOk_at _ 0 (place_jumpsOk hx) k hk h
 rw [Nat.zero_add] at this
 exact this
def noPrint:List Step→Prop
 | []=>True
 | t::l=>t.op≠9∧noPrint l
theorem noPrint_at :∀(l:List Step),noPrint l→∀i,i<l.length→(l.getD i default).op≠9
 | [],_,i,hi=>absurd hi (Nat.not_lt_zero _)
 | t::l,h,0,_=>h.1
 | t::l,h,i+1,hi=>noPrint_at l h.2 i (by simpa using hi)
theorem place_print {f b c:Int} {x:Ins} (hx:5≤x.op∧x.op≤9) :∀i,i<(placeL f b c x).length→((placeL f b c x).getD i default).op≠9:=by
 have hc:x.op=5∨x.op=6∨x.op=7∨x.op=8∨x.op=9:=by omega
 apply noPrint_at
 rcases hc with ho | ho | ho | ho | ho
 all_goals simp [placeL,ho,lockL,sendL,takeL,closeL,shutL,letL,noPrint,numb]
def need (p:Prog) (m:Machine) (i:Nat):Nat :=
 if (coreAt m i).st≠0 then 0
 else if (placeAt (body p i) 0 0 (coreAt m i).at_).2 then 0
 else (frm p i ((placeAt (body p i) 0 0 (coreAt m i).at_).1.toNat+1)-(coreAt m i).at_).toNat
theorem Inv.pos {p:Prog} {m:Machine} {s:Source} (h:Inv p m s) {i:Nat} (hi:i<m.cores.length) :∃j k:Nat,j<(body p i).length∧(k:Int)<emitSize (plc p i j)∧(coreAt m i).at_=frm p i j+k:=by
 have F:=h.fix hi
 have hK:=h.mok.core i hi
 have h0:=hK.at0
 have h1:=hK.at1
 rw [F.code] at h1
 obtain ⟨j,g1,g2,g3,_⟩:=compN_at F.bok h.lie (body p i).length (Nat.le_refl _) (coreAt m i).at_.toNat (by unfold comp at h1; omega)
 have hz:=szB_take (body p i) j g1
 refine ⟨j,((coreAt m i).at_-frm p i j).toNat,g1,?_,?_⟩
 ·unfold frm plc
  omega
 ·unfold frm
  omega
theorem need_at {p:Prog} {m:Machine} {s:Source} (h:Inv p m s) {i:Nat} (hi:i<m.cores.length) {j k:Nat} (hj:j<(body p i).length) (hk:(k:Int)<emitSize (plc p i j)) (ha:(coreAt m i).at_=frm p i j+k) :
  need p m i=if (coreAt m i).st≠0∨k=0 then 0 else (emitSize (plc p i j)).toNat-k:=by
 have F:=h.fix hi
 have hp:=(F.step h.lie hj hk ha).2
 unfold need
 rw [hp]
 by_cases hst:(coreAt m i).st≠0
 ·rw [if_pos hst,if_pos (.inl hst)]
 rw [if_neg hst]
 simp only [Int.toNat_natCast]
 by_cases hk0:k=0
 ·rw [hk0]
  simp
 rw [if_neg (by simp [hk0]),if_neg (by rintro (e | e); exact hst e; exact hk0 e),frm_succ hj,ha]
 omega
theorem need_le {p:Prog} {m:Machine} {s:Source} (h:Inv p m s) {i:Nat} (hi:i<m.cores.length):need p m i≤31:=by
 obtain ⟨j,k,hj,hk,ha⟩:=h.pos hi
 have:=emitSize_le (plc p i j)
 rw [need_at h hi hj hk ha]
 split<;>omega
theorem need_step {p:Prog} {m:Machine} {s:Source} (h:Inv p m s) {i:Nat} (hi:i<m.cores.length) (hr:Room m 1) (hn:need p m i≠0) :∃s',Inv p (mstep m ⟨i,0⟩).1 s'∧need p (mstep m ⟨i,0⟩).1 i<need p m i:=by
 have F:=h.fix hi
 obtain ⟨j,k,hj,hk,ha⟩:=h.pos hi
 have hnd:=need_at h hi hj hk ha
 have hnot :¬((coreAt m i).st≠0∨k=0):=fun e=>by rw [if_pos e] at hnd; exact hn hnd
 have hst:(coreAt m i).st=0:=Classical.byContradiction fun e=>hnot (.inl e)
 have hk0:k≠0:=fun e=>hnot (.inr e)
 rw [if_neg hnot] at hnd
 have hx:ichan (plc p i j):=by
  apply Classical.byContradiction
  intro hx
  have:=(F.one h.lie hj hx).2
  omega
 obtain ⟨n,hn',hnl,hem,hlen⟩:=F.chan h.lie hj hx
 have hstep:=(F.step h.lie hj hk ha).1
 rw [hem] at hstep
 have hkl:k<(placeL (frm p i j) (bs p.caps n) (cp p.caps n) (plc p i j)).length:=by omega
 have hI :∃s',Inv p (mstep m ⟨i,0⟩).1 s':=by
  rcases h.pick ⟨i,0⟩ with ⟨_,h2⟩ | ⟨_,_,h3⟩
  ·exact ⟨_,h2⟩
  ·exact ⟨_,h3⟩
 have h9:(stepAt m i).op≠9:=by
  rcases h.step hi with hfu | ⟨m',hm,_⟩
  ·
   intro e9
   have hno :∀q,q<(placeL (frm p i j) (bs p.caps n) (cp p.caps n) (plc p i j)).length→((placeL (frm p i j) (bs p.caps n) (cp p.caps n) (plc p i j)).getD q default).op≠9:=place_print hx
   rw [hstep] at e9
   exact hno k hkl e9
  ·intro e9
   have hno :∀q,q<(placeL (frm p i j) (bs p.caps n) (cp p.caps n) (plc p i j)).length→((placeL (frm p i j) (bs p.caps n) (cp p.caps n) (plc p i j)).getD q default).op≠9:=place_print hx
   rw [hstep] at e9
   exact hno k hkl e9
 have h0:mcode m i=0:=by
  cases hm:isMem (stepAt m i).op
  ·exact mcode_alu hi hst h9 hm
  ·rcases mcode_mem hi hst hm with h3 | ⟨h0,_⟩
   ·exfalso
    rw [mcode_nat hi,if_neg (by rw [hst]; simp [h9])] at h3
    split at h3
    ·rename_i hc
     simp only [Bool.and_eq_true,within_iff,decide_eq_true_eq] at hc
     have:=hr (cellOf (coreAt m i) (stepAt m i)).toNat (by omega)
     omega
    ·exact absurd h3 (by decide)
   ·exact h0
 obtain ⟨s',hs'⟩:=hI
 refine ⟨s',hs',?_⟩
 rw [mstep_do h0] at hs'⊢
 simp only at hs'⊢
 have hi':i<(mdo m i 0).cores.length:=by rw [(mdo_len m i 0).1]; exact hi
 rcases mdo_pos (late:=0) hi h0 with hp | hp | ⟨ho,hp⟩
 ·have e0:need p (mdo m i 0) i=0:=by
   unfold need
   rw [if_pos hp]
  rw [e0]
  omega
 ·
  by_cases hke:((k+1:Nat):Int)<emitSize (plc p i j)
  ·rw [need_at hs' hi' hj hke (by rw [hp,ha]; push_cast; omega)]
   split<;>omega
  ·have hj1:=F.last hj (by unfold ichan at hx; omega) (by unfold ichan at hx; omega)
   have F':=hs'.fix hi'
   rw [need_at hs' hi' hj1 (k:=0) (by have:=F'.size hj1; omega) (by rw [hp,ha,frm_succ hj]; push_cast; omega)]
   simp
   omega
 ·rw [hstep] at ho hp
  rcases place_jumps hx hkl ho with hq | ⟨hq1,hq2⟩
  ·rw [need_at hs' hi' hj (k:=0) (by omega) (by rw [hp,hq]; simp)]
   simp
   omega
  ·obtain ⟨q,hqe⟩:=Int.eq_ofNat_of_zero_le (show 0≤((placeL (frm p i j) (bs p.caps n) (cp p.caps n) (plc p i j)).getD k default).n-frm p i j by omega)
   by_cases hke:(q:Int)<emitSize (plc p i j)
   ·rw [need_at hs' hi' hj hke (by rw [hp]; omega)]
    split<;>omega
   ·have hj1:=F.last hj (by unfold ichan at hx; omega) (by unfold ichan at hx; omega)
    have F':=hs'.fix hi'
    rw [need_at hs' hi' hj1 (k:=0) (by have:=F'.size hj1; omega) (by rw [hp,frm_succ hj]; push_cast; omega)]
    simp
    omega
theorem rstGo_need {p:Prog} {m:Machine} {s:Source} (h:Inv p m s) {i:Nat} (hi:i<m.cores.length):rstGo p m i=decide (need p m i≠0):=by
 have F:=h.fix hi
 obtain ⟨j,k,hj,hk,ha⟩:=h.pos hi
 have hp:=(F.step h.lie hj hk ha).2
 have hpl:placeOf p i (coreAt m i).at_=placeAt (body p i) 0 0 (coreAt m i).at_:=by
  unfold placeOf
  have hw:within (i:Int) 0 ((p.bods.length:Int)-1)=true:=by have:=F.hb; rw [within_iff]; omega
  rw [h.prog,hw]
  rfl
 have hw:within (i:Int) 0 ((m.cores.length:Int)-1)=true:=by rw [within_iff]; omega
 unfold rstGo
 rw [between_eq,hpl,hp,hw,need_at h hi hj hk ha]
 by_cases hst:(coreAt m i).st=0<;>by_cases hk0:k=0<;>simp [hst,hk0]
 omega
theorem rst_other (p:Prog) (i:Nat) :∀(n:Nat) {m:Machine} {s:Source},Inv p m s→∀j,j≠i→coreAt (rst p i n m) j=coreAt m j
 | 0,_,_,_,_,_=>rfl
 | n+1,m,s,h,j,hj=>by
  have hone:coreAt (mstep m ⟨(i:Int),0⟩).1 j=coreAt m j:=mstep_other m i 0 j hj
  unfold rst
  split
  ·have hI :∃s',Inv p (mstep m ⟨i,0⟩).1 s':=by
    rcases h.pick ⟨i,0⟩ with ⟨_,h2⟩ | ⟨_,_,h3⟩
    ·exact ⟨_,h2⟩
    ·exact ⟨_,h3⟩
   obtain ⟨s',hs'⟩:=hI
   rw [rst_other p i n hs' j hj,hone]
  ·rfl
theorem need_same {p:Prog} {m m':Machine} {i:Nat} (h:coreAt m' i=coreAt m i):need p m' i=need p m i:=by
 unfold need
 rw [h]
theorem rst_settles (p:Prog) (i:Nat) :∀(n:Nat) {m:Machine} {s:Source},Inv p m s→i<m.cores.length→Room m n→need p m i≤n→∃s',Inv p (rst p i n m) s'∧need p (rst p i n m) i=0
 | 0,m,s,h,hi,hr,hn=>⟨s,h,by show need p m i=0; omega⟩
 | n+1,m,s,h,hi,hr,hn=>by
  unfold rst
  rw [rstGo_need h hi]
  by_cases h0:need p m i=0
  ·rw [if_neg (by simp [h0])]
   exact ⟨s,h,h0⟩
  ·rw [if_pos (by simp [h0])]
   obtain ⟨s',hs',hl⟩:=need_step h hi (hr.le (by omega)) h0
   exact rst_settles p i n hs' (by rw [(mstep_len m ⟨i,0⟩).1]; exact hi) (hr.step h.mok _) (by omega)
theorem row_settles (p:Prog) :∀(l:List Nat) {m:Machine} {s:Source} (D:Nat→Prop),Inv p m s→(∀i∈l,i<m.cores.length)→Room m (40*l.length)→(∀i,D i→need p m i=0)→∃s',Inv p (rowM p l m) s'∧(∀i,D i∨i∈l→need p (rowM p l m) i=0)
 | [],m,s,D,h,_,_,hD=>⟨s,h,fun i hi=>hD i (by simpa using hi)⟩
 | i::l,m,s,D,h,hl,hr,hD=>by
  have hi:=hl i (by simp)
  have hM:=(qA8 m).2 h.mok
  have hlen:=(rst_ok p i 40 hM).2
  obtain ⟨s1,h1,h2⟩:=rst_settles p i 40 h hi (hr.le (by simp only [List.length_cons]; omega)) (by have:=need_le h hi; omega)
  have hD' :∀j,(D j∨j=i)→need p (rst p i 40 m) j=0:=by
   intro j hj
   by_cases e:j=i
   ·rw [e]; exact h2
   ·rw [need_same (rst_other p i 40 h j e)]
    rcases hj with hj | hj
    ·exact hD j hj
    ·exact absurd hj e
  obtain ⟨s2,h3,h4⟩:=row_settles p l (fun j=>D j∨j=i) h1 (fun j hj=>by rw [hlen]; exact hl j (by simp [hj])) (Room.rst 40 _ hM (hr.le (by simp only [List.length_cons]; omega))) hD'
  refine ⟨s2,h3,fun j hj=>h4 j ?_⟩
  rcases hj with hj | hj
  ·exact .inl (.inl hj)
  ·rcases List.mem_cons.1 hj with rfl | hj
   ·exact .inl (.inr rfl)
   ·exact .inr hj
theorem rst_still {p:Prog} {i:Nat} {m:Machine} {s:Source} (h:Inv p m s) (hi:i<m.cores.length) (h0:need p m i=0) (n:Nat):rst p i n m=m:=by
 cases n with
 | zero=>rfl
 | succ n =>
  unfold rst
  rw [rstGo_need h hi,h0]
  rfl
theorem row_still {p:Prog} {m:Machine} {s:Source} (h:Inv p m s) (h0 :∀i,i<m.cores.length→need p m i=0) :∀(l:List Nat),(∀i∈l,i<m.cores.length)→rowM p l m=m
 | [],_=>rfl
 | i::l,hl=>by
  have hi:=hl i (by simp)
  show rowM p l (rst p i 40 m)=m
  rw [rst_still h hi (h0 i hi)]
  exact row_still h h0 l fun j hj=>hl j (by simp [hj])
theorem rest_still {p:Prog} {m:Machine} {s:Source} (h:Inv p m s) (h0 :∀i,i<m.cores.length→need p m i=0) :∀k,restN p m.cores.length k m=m
 | 0=>rfl
 | k+1=>by
  unfold restN
  rw [row_still h h0 _ (fun i hi=>by simpa using hi)]
  exact rest_still h h0 k
theorem rest_settles {p:Prog} {m:Machine} {s:Source} (h:Inv p m s) (hr:Room m 160) :∃s',Inv p (fRest p m) s'∧(∀i,i<m.cores.length→need p (fRest p m) i=0):=by
 have h4:=h.mok.n4
 have hc:=h.mok.cores
 have hM:=(qA8 m).2 h.mok
 obtain ⟨s1,h1,h2⟩:=row_settles p (List.range m.cores.length) (fun _=>False) h (fun i hi=>by simpa using hi) (hr.le (by simp; omega)) (fun i hi=>hi.elim)
 have hl:=(rowM_ok p (List.range m.cores.length) hM).2
 have hs:=rest_still h1 (fun i hi=>h2 i (.inr (by rw [hl] at hi; simpa using hi))) 3
 rw [hl] at hs
 have e:fRest p m=rowM p (List.range m.cores.length) m:=hs
 rw [e]
 exact ⟨s1,h1,fun i hi=>h2 i (.inr (by simpa using hi))⟩
theorem need_between {p:Prog} {m:Machine} {s:Source} (h:Inv p m s) {i:Nat} (hi:i<m.cores.length) (h0:need p m i=0):(coreAt m i).st=0→between p m i=true:=by
 intro hst
 have hg:=rstGo_need h hi
 unfold rstGo at hg
 rw [h0,decide_eq_true hst] at hg
 simpa using hg
theorem rest_unlocked {p:Prog} {m:Machine} {s:Source} (h:Inv p m s) (h0 :∀i,i<m.cores.length→need p m i=0) {n:Nat} (hn:n<p.caps.length):lockedM m.mem.cells p.caps n=false:=by
 obtain ⟨own,hC,hN⟩:=h.own
 have c1:=(caps_range h.lie hn).1
 cases how:own n with
 | none =>
  have h1:=((hN n hn).free how).1
  unfold lockedM
  rw [c1,Int.toNat_natCast,h1]
  simp
 | some i =>
  exfalso
  have hi:=((hN n hn).held i how).1
  cases hC i hi with
  | over _ _ ho=>exact ho n how
  | out _ _ _ _ _ _ ho=>exact ho n how
  | inner j n' N a e fl hj hx hn' hc hst hk1 hNk hs hd hf hg hh ho =>
   obtain ⟨n'',hn'',hnl,hem,hlen⟩:=(h.fix hi).chan h.lie hj hx
   have hkl:(a.k:Int)<emitSize (plc p i j):=by
    obtain rfl:n''=n':=by omega
    have hl2:(placeL (frm p i j) (bs p.caps n'') (cp p.caps n'') (plc p i j)).length=(emitSize (plc p i j)).toNat:=by omega
    rw [←hl2] at hst
    have:=(solo_cases hs hst).1
    omega
   have:=need_at h hi hj hkl hc.at_
   rw [h0 i hi,if_neg (by rintro (e0 | e0); exact e0 hc.st; omega)] at this
   omega
def m445:MFn:=⟨10,[.t 6],kr [xb 3 0,xb 4 1,xF 6] (kR [xm 7 2 3,xv 8 2,xc3 9 437 (.t 7) (.t 4) (.t 8),xv 6 9])⟩
theorem Inv.lens {p:Prog} {m:Machine} {s:Source} (h:Inv p m s):m.cores.length=p.bods.length∧s.ths.length=p.bods.length∧s.chs.length=p.caps.length:=by
 have hs:=(qAk p s).1 h.src
 have hl:m.codes.length=p.bods.length:=by rw [h.codes,List.length_map]
 have hc:=h.mok.cores
 exact ⟨by omega,hs.2.1,hs.2.2.1⟩
theorem restR_inv {p:Prog} {m:Machine} {s:Source} (h:Inv p m s):restR p m=fRest p m:=by
 unfold restR
 rw [(qA8 m).2 h.mok,decide_eq_true h.lens.1]
 rfl
theorem implBetweenTop_ok (p:Prog) (m:Machine) (i:Nat) (hp:SmallP p) (hl:m.cores.length<2^40) (hi:i<m.cores.length):CallOk Tryz.prog num 445 [.agg (progC .bw p),.agg (machineC .bw m),.int .i64 i] [] (.bool (between p m i)):=by
 refine EN m445 Tryz.func32 ?_
 unfold m445
 simp only [go_sem,seval]
 repeat refine K ?_
 refine CA [] (implBetween_ok p m i hp hl hi) ?_
 try simp only [go_sem,seval]
 repeat refine K ?_
 try simp only [go_sem,seval]
 repeat refine K ?_
 refine fz ?_; simp [FinS,nilL,nilV,oneOr,-List.drop_one]
end Go.Sep
