/- Contracts of functions. -/
import Derived.Test.YtfecojefbnnknaaGreatRxx11
open Bool renaming and_eq_true → wBp, or_eq_true → wC0
open Int renaming eq_ofNat_of_zero_le → wDp, toNat_natCast → wDg
open List renaming getD_eq_getElem?_getD → wBr, getElem?_append_left → wC4, getElem?_append_right → wBf, length_append → wC5, length_map → wDq, length_set → wD6, replicate → wBj, take_length → wDo, take_of_length_le → wBy, take_succ_cons → wDn
open Nat renaming le_refl → wBo
namespace Go.Sep
set_option maxHeartbeats 16000000
open Go.Proofs
set_option linter.unusedSimpArgs false
set_option linter.unusedVariables false
set_option maxRecDepth 100000
structure So where
 k:Nat
 low:List Int
 t4:Int
 t5:Int
 t6:Int
 t7:Int
 fst:Int
 cnt:Int
 cls:Int
 dat:List Int
 hold:Bool
def So.get (s:So) (r:Int):Int:=if r<4 then s.low.getD r.toNat 0 else if r=4 then s.t4 else if r=5 then s.t5 else if r=6 then s.t6 else s.t7
def So.put (s:So) (r v:Int):So:=if r<4 then {s with low:=s.low.set r.toNat v} else if r=4 then {s with t4:=v} else if r=5 then {s with t5:=v} else if r=6 then {s with t6:=v} else {s with t7:=v}
def So.to (s:So) (k:Nat):So:={s with k:=k}
inductive jI where
 | go (s:So)
 | stop (s:So)
 | bad
def gP (b:Int) (t:jB) (s:So):jI :=
 if t.a=-1 then
  if t.n=b+1 then .go ((s.put t.r s.fst).to (s.k+1)) else if t.n=b+2 then .go ((s.put t.r s.cnt).to (s.k+1)) else if t.n=b+3 then .go ((s.put t.r s.cls).to (s.k+1)) else .bad
 else if t.n=b+4∧0≤t.a∧0≤s.get t.a∧(s.get t.a).toNat<s.dat.length then .go ((s.put t.r (s.dat.getD (s.get t.a).toNat 0)).to (s.k+1)) else .bad
def gO (b:Int) (t:jB) (s:So):jI :=
 if t.a=-1 then
  if t.n=b+1 then .go ({s with fst:=s.get t.b}.to (s.k+1)) else if t.n=b+2 then .go ({s with cnt:=s.get t.b}.to (s.k+1)) else if t.n=b+3 then .go ({s with cls:=s.get t.b}.to (s.k+1)) else .bad
 else if t.n=b+4∧0≤t.a∧0≤s.get t.a∧(s.get t.a).toNat<s.dat.length then .go ({s with dat:=s.dat.set (s.get t.a).toNat (s.get t.b)}.to (s.k+1)) else .bad
def uP (b:Int) (t:jB) (s:So):jI:=if t.a=-1∧t.n=b∧s.get t.b=0 then .go ({s with hold:=false}.to (s.k+1)) else .bad
def vR (b:Int) (t:jB) (s:So):jI:=if t.op=5 then gP b t s else if t.op=6 then gO b t s else if t.op=7 then uP b t s else .bad
def vB (f b:Int) (t:jB) (s:So):jI :=
 if t.op=1 then .go ((s.put t.r t.n).to (s.k+1))
 else if t.op=2 then .go ((s.put t.r (IntKind.i64.wrap (s.get t.a+s.get t.b))).to (s.k+1))
 else if t.op=3 then .go ((s.put t.r (IntKind.i64.wrap (s.get t.a-s.get t.b))).to (s.k+1))
 else if t.op=4 then .go ((s.put t.r (vV (decide (s.get t.a<s.get t.b)))).to (s.k+1))
 else if t.op=10 then (if f≤t.n then .go (s.to (t.n-f).toNat) else .bad)
 else if t.op=11 then (if f≤t.n then .go (s.to (if s.get t.a=0 then (t.n-f).toNat else s.k+1)) else .bad)
 else if t.op=13 then .stop s
 else if s.hold=false then .bad
 else vR b t s
theorem lU {b:Int} {t:jB} {s s':So}:vR b t s≠.stop s':=by
 unfold vR gP gO uP
 intro h
 repeat' split at h
 all_goals cases h
def So.settled (sz:Nat) (s:So):Bool:=!s.hold&&(decide (s.k=0)||decide (s.k=sz))
def aA (f b:Int) (L:List jB):Nat→So→Option (So×Bool)
 | 0,s=>if s.settled L.length then some (s,false) else none
 | n+1,s =>
  if s.settled L.length then some (s,false)
  else if s.k<L.length then
   match vB f b (L.getD s.k default) s with
   | .go s'=>if s.k<s'.k∨(s'.k=0∧s'.hold=false) then aA f b L n s' else none
   | .stop s'=>if s'.hold=false then some (s',true) else none
   | .bad=>none
  else none
theorem vA {f b:Int} {L:List jB} {n:Nat} {s:So} (h:s.settled L.length=true):aA f b L n s=some (s,false):=by
 cases n<;>simp [aA,h]
theorem qKr {f b:Int} {L:List jB} {n:Nat} {s s':So} {r:Option (So×Bool)} (h1:s.settled L.length=false) (h2:s.k<L.length) (h3:vB f b (L.getD s.k default) s=.go s') (h4:s.k<s'.k∨(s'.k=0∧s'.hold=false)) (h5:aA f b L n s'=r):aA f b L (n+1) s=r:=by
 unfold aA
 rw [h1,if_neg (by decide),if_pos h2,h3]
 simp only
 rw [if_pos h4]
 exact h5
theorem qBd {f b:Int} {L:List jB} {n:Nat} {s s':So} (h1:s.settled L.length=false) (h2:s.k<L.length) (h3:vB f b (L.getD s.k default) s=.stop s') (h4:s'.hold=false):aA f b L (n+1) s=some (s',true):=by
 unfold aA
 rw [h1,if_neg (by decide),if_pos h2,h3]
 simp only
 rw [if_pos h4]
theorem eA {f b:Int} {L:List jB} {n:Nat} {s:So} {r:So×Bool} (h:aA f b L n s=some r) (hs:s.settled L.length=false) :
  s.k<L.length∧∃m,n=m+1∧((∃s',vB f b (L.getD s.k default) s=.go s'∧(s.k<s'.k∨(s'.k=0∧s'.hold=false))∧aA f b L m s'=some r)∨(∃s',vB f b (L.getD s.k default) s=.stop s'∧s'.hold=false∧r=(s',true))):=by
 cases n with
 | zero=>simp [aA,hs] at h
 | succ m =>
  unfold aA at h
  rw [hs,if_neg (by decide)] at h
  split at h
  ·rename_i hk
   refine ⟨hk,m,rfl,?_⟩
   cases h1:vB f b (L.getD s.k default) s with
   | go s' =>
    rw [h1] at h
    simp only at h
    split at h
    ·rename_i h4
     exact .inl ⟨s',rfl,h4,h⟩
    ·exact absurd h (by simp)
   | stop s' =>
    rw [h1] at h
    simp only at h
    split at h
    ·rename_i h4
     exact .inr ⟨s',rfl,h4,by simpa using h.symm⟩
    ·exact absurd h (by simp)
   | bad =>
    rw [h1] at h
    exact absurd h (by simp)
  ·exact absurd h (by simp)
structure aI (s:So) (c:jZ):Prop where
 cap:(s.dat.length:Int)=c.cap
 cap1:1≤c.cap
 cap4:c.cap≤4
 len:(c.list.length:Int)≤c.cap
 fst0:0≤s.fst
 fst1:s.fst<c.cap
 cnt:s.cnt=c.list.length
 cls:s.cls=vV c.closed
 at_ :∀j:Nat,j<c.list.length→c.list.getD j 0=s.dat.getD ((s.fst+j)%c.cap).toNat 0
def vI (f b c:Int) (x:Ins):List jB:=fP f b++(if x.op=5∨x.op=7 then qA1 f b c x else if x.op=6∨x.op=8 then tR f b c x else mQ f b)
structure qK8 (sz:Nat) (th:yP) (ch:jZ) (x:Ins) (s:So) (fl:Bool):Prop where
 flt:fl=true→(wC th ch x).2.2=false
 nxt:fl=false→s.k=sz→s.k≠0∧(wC th ch x).2.2=true∧s.low=(wC th ch x).1.regs
 wt:fl=false→s.k≠sz→s.k=0∧s.low=th.regs∧(x.op=5∨x.op=6)
 ch0:s.k=0→fl=false→aI s ch
 ch1:(s.k≠0∨fl=true)→aI s (wC th ch x).2.1
 wait:(s.k=0∧fl=false)↔(ch.closed=false∧((x.op=5∧(ch.list.length:Int)=ch.cap)∨(x.op=6∧(ch.list.length:Int)=0)))
 free:s.hold=false
theorem aI.same {s s':So} {c:jZ} (h:aI s c) (h1:s'.dat=s.dat) (h2:s'.fst=s.fst) (h3:s'.cnt=s.cnt) (h4:s'.cls=s.cls):aI s' c:=by
 obtain ⟨a1,a2,a3,a4,a5,a6,a7,a8,a9⟩:=h
 exact ⟨by rw [h1]; exact a1,a2,a3,a4,by rw [h2]; exact a5,by rw [h2]; exact a6,by rw [h3]; exact a7,by rw [h4]; exact a8,by rw [h1,h2]; exact a9⟩
theorem kV {l:List Int} {i j:Nat} {v:Int} (hi:i<l.length):(l.set i v).getD j 0=if j=i then v else l.getD j 0:=by
 by_cases h:j=i
 ·subst h; simp [wBr,hi]
 ·rw [if_neg h]; simp [wBr,List.getElem?_set,show¬i=j from fun e=>h e.symm]
theorem qCb {c:Int} (h1:1≤c) (h4:c≤4):c=1∨c=2∨c=3∨c=4:=by omega
theorem qYa {c f n j i:Int} (h1:1≤c) (h4:c≤4) (f0:0≤f) (f1:f<c) (n1:n<c) (j0:0≤j) (j1:j<n) (hi:i=if f+n<c then f+n else f+n-c):(f+j)%c≠i:=by
 rcases qCb h1 h4 with rfl | rfl | rfl | rfl<;>split at hi<;>omega
theorem qYc {c f n i:Int} (h1:1≤c) (h4:c≤4) (f0:0≤f) (f1:f<c) (n0:0≤n) (n1:n<c) (hi:i=if f+n<c then f+n else f+n-c):(f+n)%c=i:=by
 rcases qCb h1 h4 with rfl | rfl | rfl | rfl<;>split at hi<;>omega
theorem qTb {c f j:Int} (h1:1≤c) (h4:c≤4) (f0:0≤f) (f1:f<c) (j0:0≤j):(f+(j+1))%c=((if f+1<c then f+1 else 0)+j)%c:=by
 rcases qCb h1 h4 with rfl | rfl | rfl | rfl<;>split<;>omega
theorem qYb {c f j:Int} (h1:1≤c):0≤(f+j)%c∧(f+j)%c<c:=⟨Int.emod_nonneg _ (by omega),Int.emod_lt_of_pos _ (by omega)⟩
theorem aI.send {s s':So} {c:jZ} {v:Int} {i:Nat} (h:aI s c) (hl :¬(c.list.length:Int)=c.cap) (hi:(i:Int)=(if s.fst+s.cnt<c.cap then s.fst+s.cnt else s.fst+s.cnt-c.cap))
  (h1:s'.dat=s.dat.set i v) (h2:s'.fst=s.fst) (h3:s'.cnt=s.cnt+1) (h4:s'.cls=s.cls):aI s' {c with list:=c.list++[v]}:=by
 obtain ⟨a1,a2,a3,a4,a5,a6,a7,a8,a9⟩:=h
 have hil:i<s.dat.length:=by split at hi<;>omega
 refine ⟨by rw [h1,wD6]; exact a1,a2,a3,by simp; omega,by rw [h2]; exact a5,by rw [h2]; exact a6,by rw [h3,a7]; simp,by rw [h4]; exact a8,?_⟩
 intro j hj
 simp only [wC5,List.length_cons,List.length_nil] at hj
 rw [h1,h2,kV hil]
 by_cases hjl:j<c.list.length
 ·have h5:(c.list++[v]).getD j 0=c.list.getD j 0:=by simp [wBr,wC4 hjl]
  rw [h5,a9 j hjl,if_neg]
  intro e
  simp only at e
  have:=qYa a2 a3 a5 a6 (n:=s.cnt) (j:=j) (by omega) (by omega) (by omega) hi
  have:=qYb (f:=s.fst) (j:=j) a2
  omega
 ·have hj':j=c.list.length:=by omega
  have h5:(c.list++[v]).getD j 0=v:=by rw [hj']; simp [wBr]
  rw [h5,if_pos]
  simp only
  have:=qYc a2 a3 a5 a6 (n:=s.cnt) (by omega) (by omega) hi
  rw [hj',←a7,this]
  simp
theorem aI.take {s s':So} {c:jZ} (h:aI s c) (hl:0<c.list.length)
  (h1:s'.dat=s.dat) (h2:s'.fst=if s.fst+1<c.cap then s.fst+1 else 0) (h3:s'.cnt=s.cnt-1) (h4:s'.cls=s.cls):aI s' {c with list:=c.list.drop 1}:=by
 obtain ⟨a1,a2,a3,a4,a5,a6,a7,a8,a9⟩:=h
 refine ⟨by rw [h1]; exact a1,a2,a3,by simp; omega,by rw [h2]; split<;>omega,by rw [h2]; simp only; split<;>omega,by rw [h3,a7]; simp; omega,by rw [h4]; exact a8,?_⟩
 intro j hj
 simp only [List.length_drop] at hj
 have h5:(c.list.drop 1).getD j 0=c.list.getD (j+1) 0:=by simp [wBr,Nat.add_comm]
 simp only
 rw [h5,a9 (j+1) (by omega),h1,h2]
 congr 2
 have:=qTb a2 a3 a5 a6 (j:=j) (by omega)
 push_cast
 exact this
theorem aI.first {s:So} {c:jZ} (h:aI s c) (hl:0<c.list.length):c.list.getD 0 0=s.dat.getD s.fst.toNat 0:=by
 have h0:=h.at_ 0 hl
 have h1:=h.fst0
 have h2:=h.fst1
 rw [h0]
 congr 1
 have:(s.fst+((0:Nat):Int))%c.cap=s.fst:=by rw [Int.natCast_zero,Int.add_zero]; exact Int.emod_eq_of_lt h1 h2
 rw [this]
structure Got (s:So) (th:yP) (ch:jZ):Prop where
 k:s.k=2
 low:s.low=th.regs
 len:th.regs.length=4
 t6:s.t6=0
 hold:s.hold=true
 rep:aI s ch
 ok:jT ch=true
structure Op4 (x:Ins):Prop where
 r0:0≤x.r
 r1:x.r<4
 a0:0≤x.a
 a1:x.a<4
 b0:0≤x.b
 b1:x.b<4
def jI.nx:jI→So→So
 | .go s',_=>s'
 | _,s=>s
def jI.good:jI→So→Bool
 | .go s',s=>decide (s.k<s'.k)||(decide (s'.k=0)&&!s'.hold)
 | _,_=>false
def jI.ends:jI→Bool
 | .stop _=>true
 | _=>false
theorem gK {f b:Int} {L:List jB} {n:Nat} {s:So} (h1:s.settled L.length=false) (h2:s.k<L.length) (h3:(vB f b (L.getD s.k default) s).good s=true):aA f b L (n+1) s=aA f b L n ((vB f b (L.getD s.k default) s).nx s):=by
 cases h:vB f b (L.getD s.k default) s with
 | go s' =>
  rw [h] at h3
  simp only [jI.good,wC0,wBp,decide_eq_true_eq,Bool.not_eq_true'] at h3
  exact qKr h1 h2 h h3 rfl
 | stop s'=>rw [h] at h3; exact absurd h3 (by simp [jI.good])
 | bad=>rw [h] at h3; exact absurd h3 (by simp [jI.good])
theorem gJ {f b:Int} {L:List jB} {n:Nat} {s:So} (h1:s.settled L.length=false) (h2:s.k<L.length) (h3:(vB f b (L.getD s.k default) s).ends=true) (h4:s.hold=false):aA f b L (n+1) s=some (s,true):=by
 cases h:vB f b (L.getD s.k default) s with
 | go s'=>rw [h] at h3; exact absurd h3 (by simp [jI.ends])
 | stop s' =>
  have hs:s'=s:=by
   unfold vB at h
   repeat' split at h
   all_goals (first | exact absurd h lU | (cases h; done) | (cases h; rfl))
  rw [hs] at h
  exact qBd h1 h2 h h4
 | bad=>rw [h] at h3; exact absurd h3 (by simp [jI.ends])
theorem fle (f:Int) {n:Int} (h:0≤n):(f≤f+n)=True:=eq_true (by omega)
theorem nJ (f n:Int):f+n-f=n:=by omega
theorem qPh {f b:Int} {x:Ins} {s:So} {th:yP} {ch:jZ} (hx:x.op=9) (ho:Op4 x) (h:Got s th ch) :∃s' fl,aA f b (vI f b ch.cap x) 40 s=some (s',fl)∧qK8 13 th ch x s' fl:=by
 obtain ⟨h1,h2,h3,h4,h5,h6,h7⟩:=h
 obtain ⟨r0,r1,a0,a1,b0,b1⟩:=ho
 obtain ⟨k,low,t4,t5,t6,t7,fst,cnt,cls,dat,hold⟩:=s
 simp only at h1 h2 h4 h5
 subst h1 h2 h4 h5
 obtain ⟨c,lst,cl⟩:=ch
 have H:=h6
 obtain ⟨e1,e2,e3,e4,e5,e6,e7,e8,e9⟩:=h6
 simp only at e1 e2 e3 e4 e5 e6 e7 e8 e9
 have hL:vI f b c x=[⟨1,7,0,0,1⟩,⟨8,6,0,7,b⟩,⟨11,0,6,0,f+4⟩,⟨10,0,0,0,f⟩,⟨5,4,-1,0,b+3⟩,⟨11,0,4,0,f+9⟩,⟨1,7,0,0,0⟩,⟨7,0,-1,7,b⟩,⟨13,0,0,0,0⟩,⟨1,7,0,0,1⟩,⟨6,0,-1,7,b+3⟩,⟨1,7,0,0,0⟩,⟨7,0,-1,7,b⟩]:=by simp [vI,fP,qA1,tR,mQ,nS,rQ,vV,hx]
 generalize vI f b c x=L at hL⊢
 have hlen:L.length=13:=by rw [hL]; rfl
 have g2:L.getD 2 default=⟨11,0,6,0,f+4⟩:=by rw [hL]; rfl
 have g3:L.getD 3 default=⟨10,0,0,0,f⟩:=by rw [hL]; rfl
 have g4:L.getD 4 default=⟨5,4,-1,0,b+3⟩:=by rw [hL]; rfl
 have g5:L.getD 5 default=⟨11,0,4,0,f+9⟩:=by rw [hL]; rfl
 have g6:L.getD 6 default=⟨1,7,0,0,0⟩:=by rw [hL]; rfl
 have g7:L.getD 7 default=⟨7,0,-1,7,b⟩:=by rw [hL]; rfl
 have g8:L.getD 8 default=⟨13,0,0,0,0⟩:=by rw [hL]; rfl
 have g9:L.getD 9 default=⟨1,7,0,0,1⟩:=by rw [hL]; rfl
 have g10:L.getD 10 default=⟨6,0,-1,7,b+3⟩:=by rw [hL]; rfl
 have g11:L.getD 11 default=⟨1,7,0,0,0⟩:=by rw [hL]; rfl
 have g12:L.getD 12 default=⟨7,0,-1,7,b⟩:=by rw [hL]; rfl
 clear hL
 have hst:wC th ⟨c,lst,cl⟩ x=(th,(vN ⟨c,lst,cl⟩).1,!decide ((vN ⟨c,lst,cl⟩).2=2)):=by unfold wC; rw [if_neg (by omega),if_neg (by omega)]
 cases cl
 ·have e8':cls=0:=e8
  subst e8'
  have hc:vN ⟨c,lst,false⟩=(⟨c,lst,true⟩,0):=by unfold vN; rw [h7]; rfl
  rw [hc] at hst
  simp [gK,gJ,vA,jI.nx,jI.good,jI.ends,vB,vR,gP,gO,uP,So.settled,So.get,So.put,So.to,fle,nJ,vV,hlen,-wBr,g2,g3,g4,g5,g6,g7,g8,g9,g10,g11,g12]
  exact ⟨fun e=>absurd e (by simp),fun _ _=>⟨by simp,by rw [hst]; rfl,by rw [hst]⟩,fun _ e=>absurd rfl e,fun e=>absurd e (by simp),fun _=>by rw [hst]; exact ⟨e1,e2,e3,e4,e5,e6,e7,rfl,e9⟩,⟨fun e=>absurd e.1 (by simp),fun e=>by omega⟩,rfl⟩
 ·have e8':cls=1:=e8
  subst e8'
  have hc:vN ⟨c,lst,true⟩=(⟨c,lst,true⟩,2):=by unfold vN; rfl
  rw [hc] at hst
  simp [gK,gJ,vA,jI.nx,jI.good,jI.ends,vB,vR,gP,gO,uP,So.settled,So.get,So.put,So.to,fle,nJ,vV,hlen,-wBr,g2,g3,g4,g5,g6,g7,g8,g9,g10,g11,g12]
  exact ⟨fun _=>by rw [hst]; rfl,fun e=>absurd e (by simp),fun e=>absurd e (by simp),fun e=>absurd e (by simp),fun _=>by rw [hst]; exact H.same rfl rfl rfl rfl,⟨fun e=>absurd e.1 (by simp),fun e=>by omega⟩,rfl⟩
theorem qT5 {f b:Int} {x:Ins} {s:So} {th:yP} {ch:jZ} (hx:x.op=5) (ho:Op4 x) (h:Got s th ch) :∃s' fl,aA f b (vI f b ch.cap x) 40 s=some (s',fl)∧qK8 29 th ch x s' fl:=by
 obtain ⟨h1,h2,h3,h4,h5,h6,h7⟩:=h
 obtain ⟨r0,r1,a0,a1,b0,b1⟩:=ho
 obtain ⟨k,low,t4,t5,t6,t7,fst,cnt,cls,dat,hold⟩:=s
 simp only at h1 h2 h4 h5
 subst h1 h2 h4 h5
 obtain ⟨c,lst,cl⟩:=ch
 have H:=h6
 obtain ⟨e1,e2,e3,e4,e5,e6,e7,e8,e9⟩:=h6
 simp only at e1 e2 e3 e4 e5 e6 e7 e8 e9
 have hL:vI f b c x=[⟨1,7,0,0,1⟩,⟨8,6,0,7,b⟩,⟨11,0,6,0,f+4⟩,⟨10,0,0,0,f⟩,⟨5,4,-1,0,b+3⟩,⟨11,0,4,0,f+9⟩,⟨1,7,0,0,0⟩,⟨7,0,-1,7,b⟩,⟨13,0,0,0,0⟩,⟨5,5,-1,0,b+2⟩,⟨1,7,0,0,c⟩,⟨4,6,5,7,0⟩,⟨11,0,6,0,f+26⟩,⟨5,4,-1,0,b+1⟩,⟨2,4,4,5,0⟩,⟨4,6,4,7,0⟩,⟨11,0,6,0,f+18⟩,⟨10,0,0,0,f+19⟩,⟨3,4,4,7,0⟩,⟨6,0,4,x.a,b+4⟩,⟨1,7,0,0,1⟩,⟨2,5,5,7,0⟩,⟨6,0,-1,5,b+2⟩,⟨1,7,0,0,0⟩,⟨7,0,-1,7,b⟩,⟨10,0,0,0,f+29⟩,⟨1,7,0,0,0⟩,⟨7,0,-1,7,b⟩,⟨10,0,0,0,f⟩]:=by simp [vI,fP,qA1,tR,mQ,nS,rQ,vV,hx]
 generalize vI f b c x=L at hL⊢
 have hlen:L.length=29:=by rw [hL]; rfl
 have g2:L.getD 2 default=⟨11,0,6,0,f+4⟩:=by rw [hL]; rfl
 have g3:L.getD 3 default=⟨10,0,0,0,f⟩:=by rw [hL]; rfl
 have g4:L.getD 4 default=⟨5,4,-1,0,b+3⟩:=by rw [hL]; rfl
 have g5:L.getD 5 default=⟨11,0,4,0,f+9⟩:=by rw [hL]; rfl
 have g6:L.getD 6 default=⟨1,7,0,0,0⟩:=by rw [hL]; rfl
 have g7:L.getD 7 default=⟨7,0,-1,7,b⟩:=by rw [hL]; rfl
 have g8:L.getD 8 default=⟨13,0,0,0,0⟩:=by rw [hL]; rfl
 have g9:L.getD 9 default=⟨5,5,-1,0,b+2⟩:=by rw [hL]; rfl
 have g10:L.getD 10 default=⟨1,7,0,0,c⟩:=by rw [hL]; rfl
 have g11:L.getD 11 default=⟨4,6,5,7,0⟩:=by rw [hL]; rfl
 have g12:L.getD 12 default=⟨11,0,6,0,f+26⟩:=by rw [hL]; rfl
 have g13:L.getD 13 default=⟨5,4,-1,0,b+1⟩:=by rw [hL]; rfl
 have g14:L.getD 14 default=⟨2,4,4,5,0⟩:=by rw [hL]; rfl
 have g15:L.getD 15 default=⟨4,6,4,7,0⟩:=by rw [hL]; rfl
 have g16:L.getD 16 default=⟨11,0,6,0,f+18⟩:=by rw [hL]; rfl
 have g17:L.getD 17 default=⟨10,0,0,0,f+19⟩:=by rw [hL]; rfl
 have g18:L.getD 18 default=⟨3,4,4,7,0⟩:=by rw [hL]; rfl
 have g19:L.getD 19 default=⟨6,0,4,x.a,b+4⟩:=by rw [hL]; rfl
 have g20:L.getD 20 default=⟨1,7,0,0,1⟩:=by rw [hL]; rfl
 have g21:L.getD 21 default=⟨2,5,5,7,0⟩:=by rw [hL]; rfl
 have g22:L.getD 22 default=⟨6,0,-1,5,b+2⟩:=by rw [hL]; rfl
 have g23:L.getD 23 default=⟨1,7,0,0,0⟩:=by rw [hL]; rfl
 have g24:L.getD 24 default=⟨7,0,-1,7,b⟩:=by rw [hL]; rfl
 have g25:L.getD 25 default=⟨10,0,0,0,f+29⟩:=by rw [hL]; rfl
 have g26:L.getD 26 default=⟨1,7,0,0,0⟩:=by rw [hL]; rfl
 have g27:L.getD 27 default=⟨7,0,-1,7,b⟩:=by rw [hL]; rfl
 have g28:L.getD 28 default=⟨10,0,0,0,f⟩:=by rw [hL]; rfl
 clear hL
 have hst:wC th ⟨c,lst,cl⟩ x=(if x.op=7∧¬(yD ⟨c,lst,cl⟩ (reg th x.a)).2=2 then wV th x.r (vV (decide ((yD ⟨c,lst,cl⟩ (reg th x.a)).2=0))) else th,(yD ⟨c,lst,cl⟩ (reg th x.a)).1,!decide ((yD ⟨c,lst,cl⟩ (reg th x.a)).2=2)):=by unfold wC; rw [if_pos (by omega)]
 rw [hx] at hst
 have hv:th.regs.getD x.a.toNat 0=reg th x.a:=rfl
 cases cl
 ·have e8':cls=0:=e8
  subst e8'
  by_cases hful:(lst.length:Int)=c
  ·have hc:yD ⟨c,lst,false⟩ (reg th x.a)=(⟨c,lst,false⟩,1):=by unfold yD; rw [h7]; simp [hful]
   rw [hc] at hst
   have w1 :¬cnt<c:=by omega
   simp [gK,gJ,vA,jI.nx,jI.good,jI.ends,vB,vR,gP,gO,uP,So.settled,So.get,So.put,So.to,fle,nJ,vV,hlen,-wBr,g2,g3,g4,g5,g6,g7,g8,g9,g10,g11,g12,g13,g14,g15,g16,g17,g18,g19,g20,g21,g22,g23,g24,g25,g26,g27,g28,w1,r1]
   exact ⟨fun e=>absurd e (by simp),fun _ e=>absurd e (by simp),fun _ _=>⟨rfl,rfl,.inl hx⟩,fun _ _=>H.same rfl rfl rfl rfl,fun e=>by simp at e,⟨fun _=>⟨rfl,.inl ⟨hx,hful⟩⟩,fun _=>⟨rfl,rfl⟩⟩,rfl⟩
  ·have hc:yD ⟨c,lst,false⟩ (reg th x.a)=(⟨c,lst++[reg th x.a],false⟩,0):=by unfold yD; rw [h7]; simp [hful]
   rw [hc] at hst
   have w1:cnt<c:=by omega
   have w2:IntKind.i64.wrap (fst+cnt)=fst+cnt:=yL (by omega) (by omega)
   have w3:IntKind.i64.wrap (fst+cnt-c)=fst+cnt-c:=yL (by omega) (by omega)
   have w4:IntKind.i64.wrap (cnt+1)=cnt+1:=yL (by omega) (by omega)
   by_cases hwr:fst+cnt<c
   ·have q1:0≤fst+cnt:=by omega
    have q2:(fst+cnt).toNat<dat.length:=by omega
    simp [gK,gJ,vA,jI.nx,jI.good,jI.ends,vB,vR,gP,gO,uP,So.settled,So.get,So.put,So.to,fle,nJ,vV,hlen,-wBr,g2,g3,g4,g5,g6,g7,g8,g9,g10,g11,g12,g13,g14,g15,g16,g17,g18,g19,g20,g21,g22,g23,g24,g25,g26,g27,g28,w1,w2,w3,w4,hwr,q1,q2,r1,a1,hv]
    refine ⟨fun e=>absurd e (by simp),fun _ _=>⟨by simp,by rw [hst]; rfl,by rw [hst]; rfl⟩,fun _ e=>absurd rfl e,fun e=>absurd e (by simp),fun _=>?_,⟨fun e=>absurd e.1 (by simp),fun e=>by rcases e.2 with e | e<;>simp only at e<;>omega⟩,rfl⟩
    rw [hst]
    exact H.send hful (by simp only; rw [if_pos hwr]; omega) rfl rfl rfl rfl
   ·have q1:c≤fst+cnt:=by omega
    have q2:(fst+cnt-c).toNat<dat.length:=by omega
    simp [gK,gJ,vA,jI.nx,jI.good,jI.ends,vB,vR,gP,gO,uP,So.settled,So.get,So.put,So.to,fle,nJ,vV,hlen,-wBr,g2,g3,g4,g5,g6,g7,g8,g9,g10,g11,g12,g13,g14,g15,g16,g17,g18,g19,g20,g21,g22,g23,g24,g25,g26,g27,g28,w1,w2,w3,w4,hwr,q1,q2,r1,a1,hv]
    refine ⟨fun e=>absurd e (by simp),fun _ _=>⟨by simp,by rw [hst]; rfl,by rw [hst]; rfl⟩,fun _ e=>absurd rfl e,fun e=>absurd e (by simp),fun _=>?_,⟨fun e=>absurd e.1 (by simp),fun e=>by rcases e.2 with e | e<;>simp only at e<;>omega⟩,rfl⟩
    rw [hst]
    exact H.send hful (by simp only; rw [if_neg hwr]; omega) rfl rfl rfl rfl
 ·have e8':cls=1:=e8
  subst e8'
  have hc:yD ⟨c,lst,true⟩ (reg th x.a)=(⟨c,lst,true⟩,2):=by unfold yD; rfl
  rw [hc] at hst
  simp [gK,gJ,vA,jI.nx,jI.good,jI.ends,vB,vR,gP,gO,uP,So.settled,So.get,So.put,So.to,fle,nJ,vV,hlen,-wBr,g2,g3,g4,g5,g6,g7,g8,g9,g10,g11,g12,g13,g14,g15,g16,g17,g18,g19,g20,g21,g22,g23,g24,g25,g26,g27,g28]
  exact ⟨fun _=>by rw [hst]; rfl,fun e=>absurd e (by simp),fun e=>absurd e (by simp),fun _ e=>absurd e (by simp),fun _=>by rw [hst]; exact H.same rfl rfl rfl rfl,⟨fun e=>absurd e.2 (by simp),fun e=>absurd e.1 (by simp)⟩,rfl⟩
theorem qKq {f b:Int} {x:Ins} {s:So} {th:yP} {ch:jZ} (hx:x.op=7) (ho:Op4 x) (h:Got s th ch) :∃s' fl,aA f b (vI f b ch.cap x) 40 s=some (s',fl)∧qK8 31 th ch x s' fl:=by
 obtain ⟨h1,h2,h3,h4,h5,h6,h7⟩:=h
 obtain ⟨r0,r1,a0,a1,b0,b1⟩:=ho
 obtain ⟨k,low,t4,t5,t6,t7,fst,cnt,cls,dat,hold⟩:=s
 simp only at h1 h2 h4 h5
 subst h1 h2 h4 h5
 obtain ⟨c,lst,cl⟩:=ch
 have H:=h6
 obtain ⟨e1,e2,e3,e4,e5,e6,e7,e8,e9⟩:=h6
 simp only at e1 e2 e3 e4 e5 e6 e7 e8 e9
 have hL:vI f b c x=[⟨1,7,0,0,1⟩,⟨8,6,0,7,b⟩,⟨11,0,6,0,f+4⟩,⟨10,0,0,0,f⟩,⟨5,4,-1,0,b+3⟩,⟨11,0,4,0,f+9⟩,⟨1,7,0,0,0⟩,⟨7,0,-1,7,b⟩,⟨13,0,0,0,0⟩,⟨5,5,-1,0,b+2⟩,⟨1,7,0,0,c⟩,⟨4,6,5,7,0⟩,⟨11,0,6,0,f+27⟩,⟨5,4,-1,0,b+1⟩,⟨2,4,4,5,0⟩,⟨4,6,4,7,0⟩,⟨11,0,6,0,f+18⟩,⟨10,0,0,0,f+19⟩,⟨3,4,4,7,0⟩,⟨6,0,4,x.a,b+4⟩,⟨1,7,0,0,1⟩,⟨2,5,5,7,0⟩,⟨6,0,-1,5,b+2⟩,⟨1,7,0,0,0⟩,⟨7,0,-1,7,b⟩,⟨1,x.r,0,0,1⟩,⟨10,0,0,0,f+31⟩,⟨1,7,0,0,0⟩,⟨7,0,-1,7,b⟩,⟨1,x.r,0,0,0⟩,⟨10,0,0,0,f+31⟩]:=by simp [vI,fP,qA1,tR,mQ,nS,rQ,vV,hx]
 generalize vI f b c x=L at hL⊢
 have hlen:L.length=31:=by rw [hL]; rfl
 have g2:L.getD 2 default=⟨11,0,6,0,f+4⟩:=by rw [hL]; rfl
 have g3:L.getD 3 default=⟨10,0,0,0,f⟩:=by rw [hL]; rfl
 have g4:L.getD 4 default=⟨5,4,-1,0,b+3⟩:=by rw [hL]; rfl
 have g5:L.getD 5 default=⟨11,0,4,0,f+9⟩:=by rw [hL]; rfl
 have g6:L.getD 6 default=⟨1,7,0,0,0⟩:=by rw [hL]; rfl
 have g7:L.getD 7 default=⟨7,0,-1,7,b⟩:=by rw [hL]; rfl
 have g8:L.getD 8 default=⟨13,0,0,0,0⟩:=by rw [hL]; rfl
 have g9:L.getD 9 default=⟨5,5,-1,0,b+2⟩:=by rw [hL]; rfl
 have g10:L.getD 10 default=⟨1,7,0,0,c⟩:=by rw [hL]; rfl
 have g11:L.getD 11 default=⟨4,6,5,7,0⟩:=by rw [hL]; rfl
 have g12:L.getD 12 default=⟨11,0,6,0,f+27⟩:=by rw [hL]; rfl
 have g13:L.getD 13 default=⟨5,4,-1,0,b+1⟩:=by rw [hL]; rfl
 have g14:L.getD 14 default=⟨2,4,4,5,0⟩:=by rw [hL]; rfl
 have g15:L.getD 15 default=⟨4,6,4,7,0⟩:=by rw [hL]; rfl
 have g16:L.getD 16 default=⟨11,0,6,0,f+18⟩:=by rw [hL]; rfl
 have g17:L.getD 17 default=⟨10,0,0,0,f+19⟩:=by rw [hL]; rfl
 have g18:L.getD 18 default=⟨3,4,4,7,0⟩:=by rw [hL]; rfl
 have g19:L.getD 19 default=⟨6,0,4,x.a,b+4⟩:=by rw [hL]; rfl
 have g20:L.getD 20 default=⟨1,7,0,0,1⟩:=by rw [hL]; rfl
 have g21:L.getD 21 default=⟨2,5,5,7,0⟩:=by rw [hL]; rfl
 have g22:L.getD 22 default=⟨6,0,-1,5,b+2⟩:=by rw [hL]; rfl
 have g23:L.getD 23 default=⟨1,7,0,0,0⟩:=by rw [hL]; rfl
 have g24:L.getD 24 default=⟨7,0,-1,7,b⟩:=by rw [hL]; rfl
 have g25:L.getD 25 default=⟨1,x.r,0,0,1⟩:=by rw [hL]; rfl
 have g26:L.getD 26 default=⟨10,0,0,0,f+31⟩:=by rw [hL]; rfl
 have g27:L.getD 27 default=⟨1,7,0,0,0⟩:=by rw [hL]; rfl
 have g28:L.getD 28 default=⟨7,0,-1,7,b⟩:=by rw [hL]; rfl
 have g29:L.getD 29 default=⟨1,x.r,0,0,0⟩:=by rw [hL]; rfl
 have g30:L.getD 30 default=⟨10,0,0,0,f+31⟩:=by rw [hL]; rfl
 clear hL
 have hst:wC th ⟨c,lst,cl⟩ x=(if x.op=7∧¬(yD ⟨c,lst,cl⟩ (reg th x.a)).2=2 then wV th x.r (vV (decide ((yD ⟨c,lst,cl⟩ (reg th x.a)).2=0))) else th,(yD ⟨c,lst,cl⟩ (reg th x.a)).1,!decide ((yD ⟨c,lst,cl⟩ (reg th x.a)).2=2)):=by unfold wC; rw [if_pos (by omega)]
 rw [hx] at hst
 have hv:th.regs.getD x.a.toNat 0=reg th x.a:=rfl
 cases cl
 ·have e8':cls=0:=e8
  subst e8'
  by_cases hful:(lst.length:Int)=c
  ·have hc:yD ⟨c,lst,false⟩ (reg th x.a)=(⟨c,lst,false⟩,1):=by unfold yD; rw [h7]; simp [hful]
   rw [hc] at hst
   have w1 :¬cnt<c:=by omega
   simp [gK,gJ,vA,jI.nx,jI.good,jI.ends,vB,vR,gP,gO,uP,So.settled,So.get,So.put,So.to,fle,nJ,vV,hlen,-wBr,g2,g3,g4,g5,g6,g7,g8,g9,g10,g11,g12,g13,g14,g15,g16,g17,g18,g19,g20,g21,g22,g23,g24,g25,g26,g27,g28,g29,g30,w1,r1]
   exact ⟨fun e=>absurd e (by simp),fun _ _=>⟨by simp,by rw [hst]; rfl,by rw [hst]; rfl⟩,fun _ e=>absurd rfl e,fun e=>absurd e (by simp),fun _=>by rw [hst]; exact H.same rfl rfl rfl rfl,⟨fun e=>absurd e.1 (by simp),fun e=>by omega⟩,rfl⟩
  ·have hc:yD ⟨c,lst,false⟩ (reg th x.a)=(⟨c,lst++[reg th x.a],false⟩,0):=by unfold yD; rw [h7]; simp [hful]
   rw [hc] at hst
   have w1:cnt<c:=by omega
   have w2:IntKind.i64.wrap (fst+cnt)=fst+cnt:=yL (by omega) (by omega)
   have w3:IntKind.i64.wrap (fst+cnt-c)=fst+cnt-c:=yL (by omega) (by omega)
   have w4:IntKind.i64.wrap (cnt+1)=cnt+1:=yL (by omega) (by omega)
   by_cases hwr:fst+cnt<c
   ·have q1:0≤fst+cnt:=by omega
    have q2:(fst+cnt).toNat<dat.length:=by omega
    simp [gK,gJ,vA,jI.nx,jI.good,jI.ends,vB,vR,gP,gO,uP,So.settled,So.get,So.put,So.to,fle,nJ,vV,hlen,-wBr,g2,g3,g4,g5,g6,g7,g8,g9,g10,g11,g12,g13,g14,g15,g16,g17,g18,g19,g20,g21,g22,g23,g24,g25,g26,g27,g28,g29,g30,w1,w2,w3,w4,hwr,q1,q2,r1,a1,hv]
    refine ⟨fun e=>absurd e (by simp),fun _ _=>⟨by simp,by rw [hst]; rfl,by rw [hst]; rfl⟩,fun _ e=>absurd rfl e,fun e=>absurd e (by simp),fun _=>?_,⟨fun e=>absurd e.1 (by simp),fun e=>by rcases e.2 with e | e<;>simp only at e<;>omega⟩,rfl⟩
    rw [hst]
    exact H.send hful (by simp only; rw [if_pos hwr]; omega) rfl rfl rfl rfl
   ·have q1:c≤fst+cnt:=by omega
    have q2:(fst+cnt-c).toNat<dat.length:=by omega
    simp [gK,gJ,vA,jI.nx,jI.good,jI.ends,vB,vR,gP,gO,uP,So.settled,So.get,So.put,So.to,fle,nJ,vV,hlen,-wBr,g2,g3,g4,g5,g6,g7,g8,g9,g10,g11,g12,g13,g14,g15,g16,g17,g18,g19,g20,g21,g22,g23,g24,g25,g26,g27,g28,g29,g30,w1,w2,w3,w4,hwr,q1,q2,r1,a1,hv]
    refine ⟨fun e=>absurd e (by simp),fun _ _=>⟨by simp,by rw [hst]; rfl,by rw [hst]; rfl⟩,fun _ e=>absurd rfl e,fun e=>absurd e (by simp),fun _=>?_,⟨fun e=>absurd e.1 (by simp),fun e=>by rcases e.2 with e | e<;>simp only at e<;>omega⟩,rfl⟩
    rw [hst]
    exact H.send hful (by simp only; rw [if_neg hwr]; omega) rfl rfl rfl rfl
 ·have e8':cls=1:=e8
  subst e8'
  have hc:yD ⟨c,lst,true⟩ (reg th x.a)=(⟨c,lst,true⟩,2):=by unfold yD; rfl
  rw [hc] at hst
  simp [gK,gJ,vA,jI.nx,jI.good,jI.ends,vB,vR,gP,gO,uP,So.settled,So.get,So.put,So.to,fle,nJ,vV,hlen,-wBr,g2,g3,g4,g5,g6,g7,g8,g9,g10,g11,g12,g13,g14,g15,g16,g17,g18,g19,g20,g21,g22,g23,g24,g25,g26,g27,g28,g29,g30]
  exact ⟨fun _=>by rw [hst]; rfl,fun e=>absurd e (by simp),fun e=>absurd e (by simp),fun _ e=>absurd e (by simp),fun _=>by rw [hst]; exact H.same rfl rfl rfl rfl,⟨fun e=>absurd e.2 (by simp),fun e=>absurd e.1 (by simp)⟩,rfl⟩
theorem qT4 {f b:Int} {x:Ins} {s:So} {th:yP} {ch:jZ} (hx:x.op=6) (ho:Op4 x) (h:Got s th ch) (hne:x.r≠x.b) :∃s' fl,aA f b (vI f b ch.cap x) 40 s=some (s',fl)∧qK8 30 th ch x s' fl:=by
 obtain ⟨h1,h2,h3,h4,h5,h6,h7⟩:=h
 obtain ⟨r0,r1,a0,a1,b0,b1⟩:=ho
 obtain ⟨k,low,t4,t5,t6,t7,fst,cnt,cls,dat,hold⟩:=s
 simp only at h1 h2 h4 h5
 subst h1 h2 h4 h5
 obtain ⟨c,lst,cl⟩:=ch
 have H:=h6
 obtain ⟨e1,e2,e3,e4,e5,e6,e7,e8,e9⟩:=h6
 simp only at e1 e2 e3 e4 e5 e6 e7 e8 e9
 have hL:vI f b c x=[⟨1,7,0,0,1⟩,⟨8,6,0,7,b⟩,⟨11,0,6,0,f+4⟩,⟨10,0,0,0,f⟩,⟨5,5,-1,0,b+2⟩,⟨11,0,5,0,f+22⟩,⟨5,4,-1,0,b+1⟩,⟨5,x.r,4,0,b+4⟩,⟨1,7,0,0,1⟩,⟨2,4,4,7,0⟩,⟨3,5,5,7,0⟩,⟨1,7,0,0,c⟩,⟨4,6,4,7,0⟩,⟨11,0,6,0,f+15⟩,⟨10,0,0,0,f+16⟩,⟨1,4,0,0,0⟩,⟨6,0,-1,4,b+1⟩,⟨6,0,-1,5,b+2⟩,⟨1,7,0,0,0⟩,⟨7,0,-1,7,b⟩,⟨1,x.b,0,0,1⟩,⟨10,0,0,0,f+30⟩,⟨5,4,-1,0,b+3⟩,⟨1,7,0,0,0⟩,⟨7,0,-1,7,b⟩,⟨11,0,4,0,f+29⟩,⟨1,x.r,0,0,0⟩,⟨1,x.b,0,0,0⟩,⟨10,0,0,0,f+30⟩,⟨10,0,0,0,f⟩]:=by simp [vI,fP,qA1,tR,mQ,nS,rQ,vV,hx]
 generalize vI f b c x=L at hL⊢
 have hlen:L.length=30:=by rw [hL]; rfl
 have g2:L.getD 2 default=⟨11,0,6,0,f+4⟩:=by rw [hL]; rfl
 have g3:L.getD 3 default=⟨10,0,0,0,f⟩:=by rw [hL]; rfl
 have g4:L.getD 4 default=⟨5,5,-1,0,b+2⟩:=by rw [hL]; rfl
 have g5:L.getD 5 default=⟨11,0,5,0,f+22⟩:=by rw [hL]; rfl
 have g6:L.getD 6 default=⟨5,4,-1,0,b+1⟩:=by rw [hL]; rfl
 have g7:L.getD 7 default=⟨5,x.r,4,0,b+4⟩:=by rw [hL]; rfl
 have g8:L.getD 8 default=⟨1,7,0,0,1⟩:=by rw [hL]; rfl
 have g9:L.getD 9 default=⟨2,4,4,7,0⟩:=by rw [hL]; rfl
 have g10:L.getD 10 default=⟨3,5,5,7,0⟩:=by rw [hL]; rfl
 have g11:L.getD 11 default=⟨1,7,0,0,c⟩:=by rw [hL]; rfl
 have g12:L.getD 12 default=⟨4,6,4,7,0⟩:=by rw [hL]; rfl
 have g13:L.getD 13 default=⟨11,0,6,0,f+15⟩:=by rw [hL]; rfl
 have g14:L.getD 14 default=⟨10,0,0,0,f+16⟩:=by rw [hL]; rfl
 have g15:L.getD 15 default=⟨1,4,0,0,0⟩:=by rw [hL]; rfl
 have g16:L.getD 16 default=⟨6,0,-1,4,b+1⟩:=by rw [hL]; rfl
 have g17:L.getD 17 default=⟨6,0,-1,5,b+2⟩:=by rw [hL]; rfl
 have g18:L.getD 18 default=⟨1,7,0,0,0⟩:=by rw [hL]; rfl
 have g19:L.getD 19 default=⟨7,0,-1,7,b⟩:=by rw [hL]; rfl
 have g20:L.getD 20 default=⟨1,x.b,0,0,1⟩:=by rw [hL]; rfl
 have g21:L.getD 21 default=⟨10,0,0,0,f+30⟩:=by rw [hL]; rfl
 have g22:L.getD 22 default=⟨5,4,-1,0,b+3⟩:=by rw [hL]; rfl
 have g23:L.getD 23 default=⟨1,7,0,0,0⟩:=by rw [hL]; rfl
 have g24:L.getD 24 default=⟨7,0,-1,7,b⟩:=by rw [hL]; rfl
 have g25:L.getD 25 default=⟨11,0,4,0,f+29⟩:=by rw [hL]; rfl
 have g26:L.getD 26 default=⟨1,x.r,0,0,0⟩:=by rw [hL]; rfl
 have g27:L.getD 27 default=⟨1,x.b,0,0,0⟩:=by rw [hL]; rfl
 have g28:L.getD 28 default=⟨10,0,0,0,f+30⟩:=by rw [hL]; rfl
 have g29:L.getD 29 default=⟨10,0,0,0,f⟩:=by rw [hL]; rfl
 clear hL
 have hst:wC th ⟨c,lst,cl⟩ x=(if (wP ⟨c,lst,cl⟩).2.2=3∧x.op=8 then wV (wV (wV th x.r (wP ⟨c,lst,cl⟩).2.1) x.b (vV (decide ((wP ⟨c,lst,cl⟩).2.2=0)))) x.b 2 else wV (wV th x.r (wP ⟨c,lst,cl⟩).2.1) x.b (vV (decide ((wP ⟨c,lst,cl⟩).2.2=0))),(wP ⟨c,lst,cl⟩).1,!decide ((wP ⟨c,lst,cl⟩).2.2=2)):=by unfold wC; rw [if_neg (by omega),if_pos (by omega)]
 rw [hx] at hst
 by_cases hemp:0<lst.length
 ·have hc:wP ⟨c,lst,cl⟩=(⟨c,lst.drop 1,cl⟩,lst.getD 0 0,0):=by unfold wP; rw [h7]; simp [hemp,-wBr]
  rw [hc] at hst
  have hfi:=H.first hemp
  simp only at hfi
  rw [hfi] at hst
  have w1 :¬cnt=0:=by omega
  have w2:IntKind.i64.wrap (fst+1)=fst+1:=yL (by omega) (by omega)
  have w3:IntKind.i64.wrap (cnt-1)=cnt-1:=yL (by omega) (by omega)
  have q2:fst.toNat<dat.length:=by omega
  by_cases hwr:fst+1<c
  ·simp [gK,gJ,vA,jI.nx,jI.good,jI.ends,vB,vR,gP,gO,uP,So.settled,So.get,So.put,So.to,fle,nJ,vV,hlen,-wBr,g2,g3,g4,g5,g6,g7,g8,g9,g10,g11,g12,g13,g14,g15,g16,g17,g18,g19,g20,g21,g22,g23,g24,g25,g26,g27,g28,g29,w1,w2,w3,hwr,e5,q2,r1,b1]
   refine ⟨fun e=>absurd e (by simp),fun _ _=>⟨by simp,by rw [hst]; rfl,by rw [hst]; rfl⟩,fun _ e=>absurd rfl e,fun e=>absurd e (by simp),fun _=>?_,⟨fun e=>absurd e.1 (by simp),fun e=>by rcases e.2 with e | e<;>simp only at e<;>omega⟩,rfl⟩
   rw [hst]
   exact H.take hemp rfl (by simp only; rw [if_pos hwr]) rfl rfl
  ·simp [gK,gJ,vA,jI.nx,jI.good,jI.ends,vB,vR,gP,gO,uP,So.settled,So.get,So.put,So.to,fle,nJ,vV,hlen,-wBr,g2,g3,g4,g5,g6,g7,g8,g9,g10,g11,g12,g13,g14,g15,g16,g17,g18,g19,g20,g21,g22,g23,g24,g25,g26,g27,g28,g29,w1,w2,w3,hwr,e5,q2,r1,b1]
   refine ⟨fun e=>absurd e (by simp),fun _ _=>⟨by simp,by rw [hst]; rfl,by rw [hst]; rfl⟩,fun _ e=>absurd rfl e,fun e=>absurd e (by simp),fun _=>?_,⟨fun e=>absurd e.1 (by simp),fun e=>by rcases e.2 with e | e<;>simp only at e<;>omega⟩,rfl⟩
   rw [hst]
   exact H.take hemp rfl (by simp only; rw [if_neg hwr]) rfl rfl
 have w1:cnt=0:=by omega
 subst w1
 have hlz:lst.length=0:=by omega
 cases cl
 ·have e8':cls=0:=e8
  subst e8'
  have hc:wP ⟨c,lst,false⟩=(⟨c,lst,false⟩,0,1):=by unfold wP; rw [h7]; simp [hlz]
  rw [hc] at hst
  simp [gK,gJ,vA,jI.nx,jI.good,jI.ends,vB,vR,gP,gO,uP,So.settled,So.get,So.put,So.to,fle,nJ,vV,hlen,-wBr,g2,g3,g4,g5,g6,g7,g8,g9,g10,g11,g12,g13,g14,g15,g16,g17,g18,g19,g20,g21,g22,g23,g24,g25,g26,g27,g28,g29,r1,b1]
  exact ⟨fun e=>absurd e (by simp),fun _ e=>absurd e (by simp),fun _ _=>⟨rfl,rfl,.inr hx⟩,fun _ _=>H.same rfl rfl rfl rfl,fun e=>by simp at e,⟨fun _=>⟨rfl,.inr ⟨hx,by simp only; omega⟩⟩,fun _=>⟨rfl,rfl⟩⟩,rfl⟩
 ·have e8':cls=1:=e8
  subst e8'
  have hc:wP ⟨c,lst,true⟩=(⟨c,lst,true⟩,0,3):=by unfold wP; rw [h7]; simp [hlz]
  rw [hc] at hst
  simp [gK,gJ,vA,jI.nx,jI.good,jI.ends,vB,vR,gP,gO,uP,So.settled,So.get,So.put,So.to,fle,nJ,vV,hlen,-wBr,g2,g3,g4,g5,g6,g7,g8,g9,g10,g11,g12,g13,g14,g15,g16,g17,g18,g19,g20,g21,g22,g23,g24,g25,g26,g27,g28,g29,r1,b1]
  refine ⟨fun e=>absurd e (by simp),fun _ _=>⟨by simp,by rw [hst]; rfl,?_⟩,fun _ e=>absurd rfl e,fun e=>absurd e (by simp),fun _=>by rw [hst]; exact H.same rfl rfl rfl rfl,⟨fun e=>absurd e.1 (by simp),fun e=>absurd e.1 (by simp)⟩,rfl⟩
  rw [hst]
  simp [wV,vV]
theorem qKp {f b:Int} {x:Ins} {s:So} {th:yP} {ch:jZ} (hx:x.op=8) (ho:Op4 x) (h:Got s th ch) (hne:x.r≠x.b) :∃s' fl,aA f b (vI f b ch.cap x) 40 s=some (s',fl)∧qK8 32 th ch x s' fl:=by
 obtain ⟨h1,h2,h3,h4,h5,h6,h7⟩:=h
 obtain ⟨r0,r1,a0,a1,b0,b1⟩:=ho
 obtain ⟨k,low,t4,t5,t6,t7,fst,cnt,cls,dat,hold⟩:=s
 simp only at h1 h2 h4 h5
 subst h1 h2 h4 h5
 obtain ⟨c,lst,cl⟩:=ch
 have H:=h6
 obtain ⟨e1,e2,e3,e4,e5,e6,e7,e8,e9⟩:=h6
 simp only at e1 e2 e3 e4 e5 e6 e7 e8 e9
 have hL:vI f b c x=[⟨1,7,0,0,1⟩,⟨8,6,0,7,b⟩,⟨11,0,6,0,f+4⟩,⟨10,0,0,0,f⟩,⟨5,5,-1,0,b+2⟩,⟨11,0,5,0,f+22⟩,⟨5,4,-1,0,b+1⟩,⟨5,x.r,4,0,b+4⟩,⟨1,7,0,0,1⟩,⟨2,4,4,7,0⟩,⟨3,5,5,7,0⟩,⟨1,7,0,0,c⟩,⟨4,6,4,7,0⟩,⟨11,0,6,0,f+15⟩,⟨10,0,0,0,f+16⟩,⟨1,4,0,0,0⟩,⟨6,0,-1,4,b+1⟩,⟨6,0,-1,5,b+2⟩,⟨1,7,0,0,0⟩,⟨7,0,-1,7,b⟩,⟨1,x.b,0,0,1⟩,⟨10,0,0,0,f+32⟩,⟨5,4,-1,0,b+3⟩,⟨1,7,0,0,0⟩,⟨7,0,-1,7,b⟩,⟨11,0,4,0,f+29⟩,⟨1,x.r,0,0,0⟩,⟨1,x.b,0,0,2⟩,⟨10,0,0,0,f+32⟩,⟨1,x.r,0,0,0⟩,⟨1,x.b,0,0,0⟩,⟨10,0,0,0,f+32⟩]:=by simp [vI,fP,qA1,tR,mQ,nS,rQ,vV,hx]
 generalize vI f b c x=L at hL⊢
 have hlen:L.length=32:=by rw [hL]; rfl
 have g2:L.getD 2 default=⟨11,0,6,0,f+4⟩:=by rw [hL]; rfl
 have g3:L.getD 3 default=⟨10,0,0,0,f⟩:=by rw [hL]; rfl
 have g4:L.getD 4 default=⟨5,5,-1,0,b+2⟩:=by rw [hL]; rfl
 have g5:L.getD 5 default=⟨11,0,5,0,f+22⟩:=by rw [hL]; rfl
 have g6:L.getD 6 default=⟨5,4,-1,0,b+1⟩:=by rw [hL]; rfl
 have g7:L.getD 7 default=⟨5,x.r,4,0,b+4⟩:=by rw [hL]; rfl
 have g8:L.getD 8 default=⟨1,7,0,0,1⟩:=by rw [hL]; rfl
 have g9:L.getD 9 default=⟨2,4,4,7,0⟩:=by rw [hL]; rfl
 have g10:L.getD 10 default=⟨3,5,5,7,0⟩:=by rw [hL]; rfl
 have g11:L.getD 11 default=⟨1,7,0,0,c⟩:=by rw [hL]; rfl
 have g12:L.getD 12 default=⟨4,6,4,7,0⟩:=by rw [hL]; rfl
 have g13:L.getD 13 default=⟨11,0,6,0,f+15⟩:=by rw [hL]; rfl
 have g14:L.getD 14 default=⟨10,0,0,0,f+16⟩:=by rw [hL]; rfl
 have g15:L.getD 15 default=⟨1,4,0,0,0⟩:=by rw [hL]; rfl
 have g16:L.getD 16 default=⟨6,0,-1,4,b+1⟩:=by rw [hL]; rfl
 have g17:L.getD 17 default=⟨6,0,-1,5,b+2⟩:=by rw [hL]; rfl
 have g18:L.getD 18 default=⟨1,7,0,0,0⟩:=by rw [hL]; rfl
 have g19:L.getD 19 default=⟨7,0,-1,7,b⟩:=by rw [hL]; rfl
 have g20:L.getD 20 default=⟨1,x.b,0,0,1⟩:=by rw [hL]; rfl
 have g21:L.getD 21 default=⟨10,0,0,0,f+32⟩:=by rw [hL]; rfl
 have g22:L.getD 22 default=⟨5,4,-1,0,b+3⟩:=by rw [hL]; rfl
 have g23:L.getD 23 default=⟨1,7,0,0,0⟩:=by rw [hL]; rfl
 have g24:L.getD 24 default=⟨7,0,-1,7,b⟩:=by rw [hL]; rfl
 have g25:L.getD 25 default=⟨11,0,4,0,f+29⟩:=by rw [hL]; rfl
 have g26:L.getD 26 default=⟨1,x.r,0,0,0⟩:=by rw [hL]; rfl
 have g27:L.getD 27 default=⟨1,x.b,0,0,2⟩:=by rw [hL]; rfl
 have g28:L.getD 28 default=⟨10,0,0,0,f+32⟩:=by rw [hL]; rfl
 have g29:L.getD 29 default=⟨1,x.r,0,0,0⟩:=by rw [hL]; rfl
 have g30:L.getD 30 default=⟨1,x.b,0,0,0⟩:=by rw [hL]; rfl
 have g31:L.getD 31 default=⟨10,0,0,0,f+32⟩:=by rw [hL]; rfl
 clear hL
 have hst:wC th ⟨c,lst,cl⟩ x=(if (wP ⟨c,lst,cl⟩).2.2=3∧x.op=8 then wV (wV (wV th x.r (wP ⟨c,lst,cl⟩).2.1) x.b (vV (decide ((wP ⟨c,lst,cl⟩).2.2=0)))) x.b 2 else wV (wV th x.r (wP ⟨c,lst,cl⟩).2.1) x.b (vV (decide ((wP ⟨c,lst,cl⟩).2.2=0))),(wP ⟨c,lst,cl⟩).1,!decide ((wP ⟨c,lst,cl⟩).2.2=2)):=by unfold wC; rw [if_neg (by omega),if_pos (by omega)]
 rw [hx] at hst
 by_cases hemp:0<lst.length
 ·have hc:wP ⟨c,lst,cl⟩=(⟨c,lst.drop 1,cl⟩,lst.getD 0 0,0):=by unfold wP; rw [h7]; simp [hemp,-wBr]
  rw [hc] at hst
  have hfi:=H.first hemp
  simp only at hfi
  rw [hfi] at hst
  have w1 :¬cnt=0:=by omega
  have w2:IntKind.i64.wrap (fst+1)=fst+1:=yL (by omega) (by omega)
  have w3:IntKind.i64.wrap (cnt-1)=cnt-1:=yL (by omega) (by omega)
  have q2:fst.toNat<dat.length:=by omega
  by_cases hwr:fst+1<c
  ·simp [gK,gJ,vA,jI.nx,jI.good,jI.ends,vB,vR,gP,gO,uP,So.settled,So.get,So.put,So.to,fle,nJ,vV,hlen,-wBr,g2,g3,g4,g5,g6,g7,g8,g9,g10,g11,g12,g13,g14,g15,g16,g17,g18,g19,g20,g21,g22,g23,g24,g25,g26,g27,g28,g29,g30,g31,w1,w2,w3,hwr,e5,q2,r1,b1]
   refine ⟨fun e=>absurd e (by simp),fun _ _=>⟨by simp,by rw [hst]; rfl,by rw [hst]; rfl⟩,fun _ e=>absurd rfl e,fun e=>absurd e (by simp),fun _=>?_,⟨fun e=>absurd e.1 (by simp),fun e=>by rcases e.2 with e | e<;>simp only at e<;>omega⟩,rfl⟩
   rw [hst]
   exact H.take hemp rfl (by simp only; rw [if_pos hwr]) rfl rfl
  ·simp [gK,gJ,vA,jI.nx,jI.good,jI.ends,vB,vR,gP,gO,uP,So.settled,So.get,So.put,So.to,fle,nJ,vV,hlen,-wBr,g2,g3,g4,g5,g6,g7,g8,g9,g10,g11,g12,g13,g14,g15,g16,g17,g18,g19,g20,g21,g22,g23,g24,g25,g26,g27,g28,g29,g30,g31,w1,w2,w3,hwr,e5,q2,r1,b1]
   refine ⟨fun e=>absurd e (by simp),fun _ _=>⟨by simp,by rw [hst]; rfl,by rw [hst]; rfl⟩,fun _ e=>absurd rfl e,fun e=>absurd e (by simp),fun _=>?_,⟨fun e=>absurd e.1 (by simp),fun e=>by rcases e.2 with e | e<;>simp only at e<;>omega⟩,rfl⟩
   rw [hst]
   exact H.take hemp rfl (by simp only; rw [if_neg hwr]) rfl rfl
 have w1:cnt=0:=by omega
 subst w1
 have hlz:lst.length=0:=by omega
 cases cl
 ·have e8':cls=0:=e8
  subst e8'
  have hc:wP ⟨c,lst,false⟩=(⟨c,lst,false⟩,0,1):=by unfold wP; rw [h7]; simp [hlz]
  rw [hc] at hst
  simp [gK,gJ,vA,jI.nx,jI.good,jI.ends,vB,vR,gP,gO,uP,So.settled,So.get,So.put,So.to,fle,nJ,vV,hlen,-wBr,g2,g3,g4,g5,g6,g7,g8,g9,g10,g11,g12,g13,g14,g15,g16,g17,g18,g19,g20,g21,g22,g23,g24,g25,g26,g27,g28,g29,g30,g31,r1,b1]
  exact ⟨fun e=>absurd e (by simp),fun _ _=>⟨by simp,by rw [hst]; rfl,by rw [hst]; rfl⟩,fun _ e=>absurd rfl e,fun e=>absurd e (by simp),fun _=>by rw [hst]; exact H.same rfl rfl rfl rfl,⟨fun e=>absurd e.1 (by simp),fun e=>by omega⟩,rfl⟩
 ·have e8':cls=1:=e8
  subst e8'
  have hc:wP ⟨c,lst,true⟩=(⟨c,lst,true⟩,0,3):=by unfold wP; rw [h7]; simp [hlz]
  rw [hc] at hst
  simp [gK,gJ,vA,jI.nx,jI.good,jI.ends,vB,vR,gP,gO,uP,So.settled,So.get,So.put,So.to,fle,nJ,vV,hlen,-wBr,g2,g3,g4,g5,g6,g7,g8,g9,g10,g11,g12,g13,g14,g15,g16,g17,g18,g19,g20,g21,g22,g23,g24,g25,g26,g27,g28,g29,g30,g31,r1,b1]
  refine ⟨fun e=>absurd e (by simp),fun _ _=>⟨by simp,by rw [hst]; rfl,?_⟩,fun _ e=>absurd rfl e,fun e=>absurd e (by simp),fun _=>by rw [hst]; exact H.same rfl rfl rfl rfl,⟨fun e=>absurd e.1 (by simp),fun e=>absurd e.1 (by simp)⟩,rfl⟩
  rw [hst]
  simp [wV,vV]
def wAv:Prop :=∀(f b:Int) (x:Ins) (a:So) (th:yP) (ch:jZ),5≤x.op∧x.op≤9→Op4 x→(x.op=6∨x.op=8→x.r≠x.b)→Got a th ch→∃e fl,aA f b (vI f b ch.cap x) 40 a=some (e,fl)∧qK8 (wL x).toNat th ch x e fl
theorem wAo:wAv:=by
 intro f b x a th ch hx ho hne hg
 have h:x.op=5∨x.op=6∨x.op=7∨x.op=8∨x.op=9:=by omega
 rcases h with h | h | h | h | h
 ·have:=qT5 (f:=f) (b:=b) h ho hg; unfold wL; simpa [h] using this
 ·have:=qT4 (f:=f) (b:=b) h ho hg (hne (.inl h)); unfold wL; simpa [h] using this
 ·have:=qKq (f:=f) (b:=b) h ho hg; unfold wL; simpa [h] using this
 ·have:=qKp (f:=f) (b:=b) h ho hg (hne (.inr h)); unfold wL; simpa [h] using this
 ·have:=qPh (f:=f) (b:=b) h ho hg; unfold wL; simpa [h] using this
theorem qJp {caps:List Int} {b:List Ins} (hb:wF b caps.length=true) (hl:xG caps=true) {j k:Nat} :∀(n:Nat),n≤b.length→j<n→(k:Int)<wL (b.getD j default)→
  (szB (b.take j)).toNat+k<(aY caps b n).length∧(aY caps b n).getD ((szB (b.take j)).toNat+k) default=(qAs caps (b.getD j default) (szB (b.take j)) (dB b)).getD k default
 | 0,_,h,_=>by omega
 | n+1,hn,hj,hk=>by
  have hs:=mP hb hl n (by omega)
  have he:=qEd hb hl n (by omega) (szB (b.take n))
  by_cases hc:j<n
  ·obtain ⟨h1,h2⟩:=qJp hb hl n (by omega) hc hk
   refine ⟨by simp only [aY,wC5]; omega,?_⟩
   rw [←h2,aY]
   simp only [wBr]
   rw [wC4 h1]
  ·obtain rfl:j=n:=by omega
   have h0:=(qCn b j).1
   refine ⟨by simp only [aY,wC5]; omega,?_⟩
   rw [aY,wBr,wBf (by omega),←wBr]
   congr 1
   omega
theorem qX8 {caps:List Int} {b:List Ins} (hb:wF b caps.length=true) (hl:xG caps=true) {j k:Nat} (hj:j<b.length) (hk:(k:Int)<wL (b.getD j default)) :
  (szB (b.take j)).toNat+k<(comp caps b).length∧(comp caps b).getD ((szB (b.take j)).toNat+k) default=(qAs caps (b.getD j default) (szB (b.take j)) (dB b)).getD k default :=
 qJp hb hl b.length (wBo _) hj hk
theorem qUg {caps:List Int} {b:List Ins} (hb:wF b caps.length=true) (hl:xG caps=true):((comp caps b).length:Int)=szB b:=by
 have:=mP hb hl b.length (wBo _)
 rw [wDo] at this
 exact this
theorem qFg :∀(b:List Ins) (off k at_:Int) (i:Nat),i<b.length→off+szB (b.take i)≤at_→at_<off+szB (b.take (i+1))→dS b off k at_=(k+i,decide (at_=off+szB (b.take i)))
 | [],_,_,_,i,h,_,_=>by simp at h
 | x::l,off,k,at_,0,_,h1,h2=>by
  simp only [List.take_zero,szB,wDn] at h1 h2
  unfold dS
  rw [if_pos (by omega)]
  simp [szB]
 | x::l,off,k,at_,i+1,h,h1,h2=>by
  simp only [wDn,szB] at h1 h2
  have hl:=(qKj (l.take i)).1
  unfold dS
  rw [if_neg (by omega)]
  rw [qFg l (off+wL x) (k+1) at_ i (by simpa using h) (by omega) (by omega)]
  refine Prod.ext (by push_cast; omega) ?_
  simp only [wDn,szB]
  congr 1
  apply propext
  constructor<;>intro e<;>omega
theorem qLi {x:Ins} (h:1≤x.op∧x.op≤13):1≤wL x:=by
 unfold wL
 repeat' split
 all_goals (try omega)
 rw [qL.2 h]
 decide
theorem qLj {x:Ins} (h:1≤x.op∧x.op≤13) (hc :¬(5≤x.op∧x.op≤9)):wL x=1:=by
 unfold wL
 rw [if_neg (by omega),if_neg (by omega),if_neg (by omega),if_neg (by omega),if_neg (by omega),qL.2 h]
 rfl
theorem eP {x:Ins} (hc:5≤x.op∧x.op≤9):13≤wL x:=by
 unfold wL
 repeat' split
 all_goals (try omega)
theorem qMl {b:List Ins} (hb :∀i,i<b.length→1≤wL (b.getD i default)) :∀(i j:Nat),i<j→j≤b.length→szB (b.take i)<szB (b.take j)
 | i,0,h,_=>by omega
 | i,j+1,h,hj=>by
  have h1:=hb j (by omega)
  rw [nQ b j (by omega)]
  by_cases e:i=j
  ·rw [e]; omega
  ·have:=qMl hb i j (by omega) (by omega)
   omega
theorem qM1 {caps:List Int} (hl:xG caps=true) {n:Nat} (h:n<caps.length):base caps n=cQ (caps.take n):=by
 unfold base
 have hw:qW (n:Int) 0 ((caps.length:Int)-1)=true:=by rw [qL]; omega
 rw [hl,hw]
 rfl
def bs (caps:List Int) (n:Nat):Nat:=(cQ (caps.take n)).toNat
def cp (caps:List Int) (n:Nat):Nat:=(caps.getD n 0).toNat
theorem aC {caps:List Int} (hl:xG caps=true) {n:Nat} (h:n<caps.length):base caps n=(bs caps n:Int)∧caps.getD n 0=(cp caps n:Int)∧1≤cp caps n∧cp caps n≤4∧bs caps n+cp caps n+4≤24:=by
 have e:=qM1 hl h
 have hn :¬base caps n<0:=qNl hl (by omega)
 obtain ⟨_,_,_,h1,h2,h3⟩:=qR5 hn
 rw [qL,wDg] at h3
 rw [wDg] at h2
 unfold bs cp
 rw [←e]
 omega
theorem qGm {caps:List Int} (hl:xG caps=true) :∀{n k:Nat},n<k→k<caps.length→bs caps n+cp caps n+4≤bs caps k
 | n,0,h,_=>by omega
 | n,k+1,h,hk=>by
  have h1:=aC hl (n:=k) (by omega)
  have h2:=aC hl (n:=k+1) hk
  have h3:=qI9 caps k (by omega)
  rw [qM1 hl hk] at h2
  rw [qM1 hl (by omega)] at h1
  by_cases e:n=k
  ·subst e; omega
  ·have:=qGm hl (n:=n) (k:=k) (by omega) (by omega)
   omega
theorem So.put_dat (s:So) (r v:Int):(s.put r v).dat=s.dat∧(s.put r v).fst=s.fst∧(s.put r v).cnt=s.cnt∧(s.put r v).cls=s.cls∧(s.put r v).hold=s.hold∧(s.put r v).k=s.k:=by
 unfold So.put
 repeat' split
 all_goals exact ⟨rfl,rfl,rfl,rfl,rfl,rfl⟩
theorem qIf {f b:Int} {L:List jB} :∀{n:Nat} {a e:So} {fl:Bool},aA f b L n a=some (e,fl)→a.hold=false→e.fst=a.fst∧e.cnt=a.cnt∧e.cls=a.cls∧e.dat=a.dat∧e.hold=false
 | n,a,e,fl,h,hh=>by
  cases hs:a.settled L.length
  ·obtain ⟨_,m,rfl,h1 | h1⟩:=eA h hs
   ·obtain ⟨s',h2,_,h3⟩:=h1
    have hk:s'.fst=a.fst∧s'.cnt=a.cnt∧s'.cls=a.cls∧s'.dat=a.dat∧s'.hold=false:=by
     unfold vB at h2
     have hp:=fun r v=>So.put_dat a r v
     repeat' split at h2
     all_goals (first
      | (exfalso; rename_i hc; exact hc hh)
      | (cases h2; done)
      | (cases h2; exact ⟨(hp _ _).2.1,(hp _ _).2.2.1,(hp _ _).2.2.2.1,(hp _ _).1,(hp _ _).2.2.2.2.1.trans hh⟩)
      | (cases h2; exact ⟨rfl,rfl,rfl,rfl,hh⟩))
    obtain ⟨k1,k2,k3,k4,k5⟩:=hk
    obtain ⟨g1,g2,g3,g4,g5⟩:=qIf h3 k5
    exact ⟨by rw [g1,k1],by rw [g2,k2],by rw [g3,k3],by rw [g4,k4],g5⟩
   ·obtain ⟨s',h2,h3,h4⟩:=h1
    simp only [Prod.mk.injEq] at h4
    obtain ⟨rfl,_⟩:=h4
    have:e=a:=by
     unfold vB at h2
     repeat' split at h2
     all_goals (first | exact absurd h2 lU | (cases h2; done) | (cases h2; rfl))
    subst this
    exact ⟨rfl,rfl,rfl,rfl,hh⟩
  ·rw [vA hs] at h
   simp only [Option.some.injEq,Prod.mk.injEq] at h
   obtain ⟨rfl,_⟩:=h
   exact ⟨rfl,rfl,rfl,rfl,hh⟩
theorem qIe {f b:Int} {L:List jB} :∀{n:Nat} {a:So} {r:So×Bool},aA f b L n a=some r→aA f b L (n+1) a=some r
 | n,a,r,h=>by
  cases hs:a.settled L.length
  ·obtain ⟨hk,m,rfl,h1 | h1⟩:=eA h hs
   ·obtain ⟨s',h2,h4,h3⟩:=h1
    exact qKr hs hk h2 h4 (qIe h3)
   ·obtain ⟨s',h2,h3,rfl⟩:=h1
    exact qBd hs hk h2 h3
  ·rw [vA hs] at h⊢
   exact h
theorem qY8 {f b:Int} {L:List jB} {n m:Nat} {a:So} {r:So×Bool} (h:aA f b L n a=some r) (hm:n≤m):aA f b L m a=some r:=by
 obtain ⟨d,rfl⟩:=Nat.le.dest hm
 clear hm
 induction d with
 | zero=>exact h
 | succ d ih=>exact qIe ih
theorem qBe {f b:Int} {L:List jB} :∀{n:Nat} {a:So} {r:So×Bool},aA f b L n a=some r→aA f b L (L.length-a.k) a=some r
 | n,a,r,h=>by
  cases hs:a.settled L.length
  ·obtain ⟨hk,m,rfl,h1 | h1⟩:=eA h hs
   ·obtain ⟨s',h2,h4,h3⟩:=h1
    obtain ⟨d,hd⟩ :∃d,L.length-a.k=d+1:=⟨L.length-a.k-1,by omega⟩
    rw [hd]
    refine qKr hs hk h2 h4 ?_
    rcases h4 with h4 | ⟨h4,h5⟩
    ·exact qY8 (qBe h3) (by omega)
    ·have hse:s'.settled L.length=true:=by simp [So.settled,h4,h5]
     rw [vA hse] at h3⊢
     exact h3
   ·obtain ⟨s',h2,h3,rfl⟩:=h1
    obtain ⟨d,hd⟩ :∃d,L.length-a.k=d+1:=⟨L.length-a.k-1,by omega⟩
    rw [hd]
    exact qBd hs hk h2 h3
  ·rw [vA hs] at h⊢
   exact h
theorem qVi {f b:Int} {t:jB} {a s':So} (h:vB f b t a=.go s'):t.op≠8∧t.op≠9:=by
 refine ⟨fun e=>?_,fun e=>?_⟩<;>(unfold vB vR at h; rw [e] at h; simp at h)
theorem qPi {f b:Int} {t:jB} {a s':So} (h:vB f b t a=.stop s'):t.op=13∧s'=a:=by
 unfold vB at h
 repeat' split at h
 all_goals (first | exact absurd h lU | (cases h; done) | (rename_i h13; cases h; exact ⟨h13,rfl⟩))
theorem qMq {b:Int} {t:jB} {a s':So} (h:vR b t a=.go s'):s'.dat.length=a.dat.length:=by
 unfold vR gP gO uP at h
 have hp:=fun r v=>(So.put_dat a r v).1
 repeat' split at h
 all_goals (first
  | (cases h; done)
  | (cases h; rfl)
  | (cases h; exact congrArg List.length (hp _ _))
  | (cases h; exact wD6))
theorem qT6 {f b:Int} {t:jB} {a s':So} (h:vB f b t a=.go s'):s'.dat.length=a.dat.length:=by
 unfold vB at h
 have hp:=fun r v=>(So.put_dat a r v).1
 repeat' split at h
 all_goals (first
  | exact qMq h
  | (cases h; done)
  | (cases h; rfl)
  | (cases h; exact congrArg List.length (hp _ _)))
structure mZ (K:uL) (f:Int) (s:So):Prop where
 at_:K.at_=f+s.k
 regs:K.regs=s.low++[s.t4,s.t5,s.t6,s.t7]
 low:s.low.length=4
 st:K.st=0
theorem mZ.get {K:uL} {f:Int} {s:So} (h:mZ K f s) {r:Int} (h0:0≤r) (h1:r≤7):rg K r=s.get r:=by
 unfold rg So.get
 rw [h.regs]
 obtain ⟨n,rfl⟩:=wDp h0
 simp only [wDg]
 have hl:=h.low
 by_cases hn:n<4
 ·rw [if_pos (by omega)]
  simp [wBr,wC4 (show n<s.low.length by omega)]
 ·rw [if_neg (by omega)]
  rw [wBr,wBf (by omega),hl]
  have:n=4∨n=5∨n=6∨n=7:=by omega
  rcases this with rfl | rfl | rfl | rfl<;>simp
theorem mZ.put {K:uL} {f:Int} {s:So} (h:mZ K f s) {r v:Int} (h0:0≤r) (h1:r≤7) (a:Int) (vw:List Int) (k:Nat) (ha:a=f+k):mZ ⟨a,K.regs.set r.toNat v,vw,K.st⟩ f ((s.put r v).to k):=by
 obtain ⟨n,rfl⟩:=wDp h0
 have hl:=h.low
 have hr:=h.regs
 refine ⟨by simpa [So.to] using ha,?_,?_,h.st⟩
 ·rw [hr]
  simp only [wDg,So.put,So.to]
  by_cases hn:n<4
  ·rw [if_pos (by omega)]
   simp only
   rw [List.set_append_left _ _ (by omega)]
  ·rw [if_neg (by omega),List.set_append_right _ _ (by omega),hl]
   have:n=4∨n=5∨n=6∨n=7:=by omega
   rcases this with rfl | rfl | rfl | rfl<;>simp
 ·simp only [So.put,So.to]
  repeat' split
  all_goals simp [hl]
theorem mZ.move {K:uL} {f:Int} {s:So} (h:mZ K f s) (a:Int) (vw:List Int) (k:Nat) (ha:a=f+k):mZ ⟨a,K.regs,vw,K.st⟩ f (s.to k) :=
 ⟨by simpa [So.to] using ha,h.regs,h.low,h.st⟩
structure qCj (cs:List (List wZ)) (b:Nat) (s:So):Prop where
 fst:jN cs (b+1)=s.fst
 cnt:jN cs (b+2)=s.cnt
 cls:jN cs (b+3)=s.cls
 dat :∀j:Nat,j<s.dat.length→jN cs (b+4+j)=s.dat.getD j 0
def iV (cs:List (List wZ)) (b n:Nat) (v:List Int):Prop :=∀j:Nat,1≤j→j<n+4→v.getD (b+j) 0=((cs.getD (b+j) []).length:Int)-1
theorem fC {m:qT} {i:Nat} (hi:i<m.cores.length):eZ m i=if (qJ m i).st≠0∨((qS m i).op=9∧(m.tr.length:Int)=4000) then 3
  else if cA (qS m i).op&&!decide ((qS m i).op=5)&&qW (bF (qJ m i) (qS m i)) 0 23&&decide ((4000:Int)≤(m.mem.cells.getD (bF (qJ m i) (qS m i)).toNat []).length) then 3 else 0:=by
 have hw:qW (i:Int) 0 ((m.cores.length:Int)-1)=true:=by rw [qL]; omega
 unfold eZ
 rw [if_pos hw]
 rfl
theorem qBy {m:qT} {i:Nat} (hi:i<m.cores.length) (hst:(qJ m i).st=0) (h9:(qS m i).op≠9) (hm:cA (qS m i).op=false):eZ m i=0:=by
 rw [fC hi,if_neg (by rw [hst]; simp [h9]),hm]
 simp
theorem qBx {m:qT} {i:Nat} (hi:i<m.cores.length) (hst:(qJ m i).st=0) (hm:cA (qS m i).op=true) :
  eZ m i=3∨(eZ m i=0∧((qS m i).op≠5→qW (bF (qJ m i) (qS m i)) 0 23=true→(m.mem.cells.getD (bF (qJ m i) (qS m i)).toNat []).length<4000)):=by
 have h9:(qS m i).op≠9:=by intro e; rw [e] at hm; exact absurd hm (by decide)
 rw [fC hi,if_neg (by rw [hst]; simp [h9]),hm]
 by_cases h5:(qS m i).op=5
 ·right
  rw [h5]
  simp
 ·cases hc:qW (bF (qJ m i) (qS m i)) 0 23
  ·right
   simp
  ·by_cases hf:(4000:Int)≤(m.mem.cells.getD (bF (qJ m i) (qS m i)).toNat []).length
   ·left
    simp [h5,hf,-wBr]
   ·right
    refine ⟨by simp [h5,hf,-wBr],fun _ _=>by omega⟩
theorem fO {m:qT} {i:Nat} {late:Int} (h:eZ m i=3):jD m ⟨i,late⟩=(m,3):=by
 unfold jD
 simp only
 rw [h,if_neg (by decide)]
theorem oJ {m:qT} {i:Nat} {late:Int} (h:eZ m i=0):jD m ⟨i,late⟩=(mdo m i late,0):=by
 unfold jD
 simp only
 rw [h,if_pos rfl,wDg]
theorem eB (m:qT) (i j:Nat) (k:uL) (h:j≠i):qJ (dQ m i k) j=qJ m j:=by
 unfold qJ dQ
 simp [wBr,List.getElem?_set,show¬i=j from fun e=>h e.symm]
theorem eY {m:qT} {i:Nat} {late:Int} (hi:i<m.cores.length) (hst:(qJ m i).st=0) (h9:(qS m i).op≠9) (h12:(qS m i).op≠12) (h13:(qS m i).op≠13) (hm:cA (qS m i).op=false)
  (hn:gQ (qJ m i) (qS m i)<((m.codes.getD i []).length:Int)) :
  jD m ⟨i,late⟩=(dQ m i {alu (qJ m i) (qS m i) with at_:=gQ (qJ m i) (qS m i)},0):=by
 rw [oJ (qBy hi hst h9 hm)]
 unfold mdo
 simp only
 rw [if_neg h12,if_neg h13,hm,if_neg (by decide),if_neg h9]
 unfold qHt
 rw [if_neg (by omega)]
theorem qNa {m:qT} {i:Nat} {late:Int} (hi:i<m.cores.length) (hst:(qJ m i).st=0) (h13:(qS m i).op=13):jD m ⟨i,late⟩=(dQ m i {qJ m i with st:=2},0):=by
 rw [oJ (qBy hi hst (by omega) (by rw [h13]; decide))]
 unfold mdo stop
 simp only
 rw [if_neg (by omega),if_pos h13]
theorem qTw {cs:List (List wZ)} {view:List Int} {c:Nat} {late:Int} (hm:qE0 cs) (hv:VOk cs view) (hc:c<24) (h:view.getD c 0=((cs.getD c []).length:Int)-1):load cs view c late false=(jN cs c,view):=by
 have h1:=(hm.cell c hc).1
 have e:max (((cs.getD c []).length:Int)-1-max late 0) (view.getD c 0)=((cs.getD c []).length:Int)-1:=by omega
 unfold load
 simp only
 rw [e]
 refine Prod.ext ?_ ?_
 ·rw [if_neg (by decide)]
  show ((cs.getD c []).getD (((cs.getD c []).length:Int)-1).toNat default).v=jN cs c
  unfold jN
  congr 2
  omega
 ·rw [if_neg (by decide),←h]
  exact jP _ _ _ (by rw [hv.1]; exact hc)
theorem bZ {cs:List (List wZ)} {c:Nat} (w:wZ) (hc:c<cs.length) (d:Nat):jN (cs.set c (cs.getD c []++[w])) d=if d=c then w.v else jN cs d:=by
 unfold jN
 rw [uN _ _ _ _ _ hc]
 split
 ·simp [wBr]
 ·rfl
structure qB7 (m m':qT) (i:Nat) (f:Int) (b:Nat) (s s':So):Prop where
 tr:m'.tr=m.tr
 codes:m'.codes=m.codes
 len:m'.cores.length=m.cores.length
 other :∀j,j≠i→qJ m' j=qJ m j
 core:mZ (qJ m' i) f s'
 dat:s'.dat.length=s.dat.length
 held:s'.hold=true→s.hold=true∧qCj m'.mem.cells b s'∧iV m'.mem.cells b s.dat.length (qJ m' i).view∧m'.mem.cells.getD b []=m.mem.cells.getD b []
 out :∀c,¬(b≤c∧c<b+4+s.dat.length)→m'.mem.cells.getD c []=m.mem.cells.getD c []
 none:s.hold=false→m'.mem=m.mem
 free:s.hold=true→s'.hold=false→jN m'.mem.cells b=0∧qCj m'.mem.cells b s'∧iV m'.mem.cells b s.dat.length ((m'.mem.cells.getD b []).getD ((m'.mem.cells.getD b []).length-1) default).view
theorem kW (m:qT) (i:Nat) (k:uL):(dQ m i k).cores.length=m.cores.length:=by simp [dQ]
theorem vL (m:qT) (i:Nat) (k:uL) (h:i<m.cores.length):qJ (dQ m i k) i=k:=by rw [qRu m i i k h,if_pos rfl]
theorem qGx {m:qT} {i:Nat} {f:Int} {b:Nat} {s s':So} (hi:i<m.cores.length) {K':uL} (hK:mZ K' f s') (hv:K'.view=(qJ m i).view) (h1:s'.dat=s.dat) (h2:s'.fst=s.fst) (h3:s'.cnt=s.cnt) (h4:s'.cls=s.cls) (h5:s'.hold=s.hold)
  (hd:s.hold=true→qCj m.mem.cells b s∧iV m.mem.cells b s.dat.length (qJ m i).view):qB7 m (dQ m i K') i f b s s' where
 tr:=rfl
 codes:=rfl
 len:=kW _ _ _
 other:=fun j hj=>eB m i j K' hj
 core:=by rw [vL m i K' hi]; exact hK
 dat:=by rw [h1]
 held:=fun h=>by
  rw [h5] at h
  obtain ⟨a,c⟩:=hd h
  rw [vL m i K' hi,hv]
  exact ⟨h,⟨by rw [h2]; exact a.fst,by rw [h3]; exact a.cnt,by rw [h4]; exact a.cls,by rw [h1]; exact a.dat⟩,c,rfl⟩
 out:=fun c _=>rfl
 none:=fun _=>rfl
 free:=fun h h'=>by rw [h5,h] at h'; exact absurd h' (by decide)
theorem qLw {m:qT} {i:Nat} {f:Int} {b:Nat} {s s':So} (hM:MOk m) (hi:i<m.cores.length) (hc:mZ (qJ m i) f s)
  (hd:s.hold=true→qCj m.mem.cells b s∧iV m.mem.cells b s.dat.length (qJ m i).view) (ht:vB f b (qS m i) s=.go s') (hn:f+s'.k<((m.codes.getD i []).length:Int)) (hf:0≤f)
  (hop:(qS m i).op≤4∨(qS m i).op=10∨(qS m i).op=11) :∃m',(∀late,jD m ⟨i,late⟩=(m',0))∧qB7 m m' i f b s s':=by
 obtain ⟨r0,r1,b0,b1,o0,o1,ha⟩:=xO (cX hM hi)
 have ga:0≤(qS m i).a∧(qS m i).a≤7:=by omega
 have hm:cA (qS m i).op=false:=by
  unfold cA
  have h5 :¬(qS m i).op=5:=by omega
  have h6 :¬(qS m i).op=6:=by omega
  have h7 :¬(qS m i).op=7:=by omega
  have h8 :¬(qS m i).op=8:=by omega
  simp [h5,h6,h7,h8]
 have ea:=hc.get ga.1 ga.2
 have eb:=hc.get b0 b1
 have hat:=hc.at_
 have hst:=hc.st
 have hloc:=fun (late:Int)=>@eY m i late hi hst (by omega) (by omega) (by omega) hm
 generalize qS m i=t at *
 have key :∀K':uL,K' = {alu (qJ m i) t with at_:=gQ (qJ m i) t}→mZ K' f s'→K'.view=(qJ m i).view→s'.dat=s.dat→s'.fst=s.fst→s'.cnt=s.cnt→s'.cls=s.cls→s'.hold=s.hold→∃m',(∀late,jD m ⟨i,late⟩=(m',0))∧qB7 m m' i f b s s':=by
  intro K' hK h0 h6 h1 h2 h3 h4 h5
  refine ⟨dQ m i K',fun late=>?_,qGx hi h0 h6 h1 h2 h3 h4 h5 hd⟩
  rw [hloc late,←hK]
  have:=h0.at_
  rw [hK] at this
  simp only at this
  rw [this]
  exact hn
 have hkey :∀(r v:Int),0≤r→r≤7→s'=(s.put r v).to (s.k+1)→{alu (qJ m i) t with at_:=gQ (qJ m i) t}=(⟨(qJ m i).at_+1,(qJ m i).regs.set r.toNat v,(qJ m i).view,(qJ m i).st⟩:uL)→∃m',(∀late,jD m ⟨i,late⟩=(m',0))∧qB7 m m' i f b s s':=by
  intro r v h0 h1 hs hK
  subst hs
  obtain ⟨p1,p2,p3,p4,p5,p6⟩:=So.put_dat s r v
  exact key _ rfl (by rw [hK]; exact hc.put h0 h1 _ _ _ (by rw [hat]; push_cast; omega)) (by rw [hK]) p1 p2 p3 p4 p5
 have hcase:t.op=1∨t.op=2∨t.op=3∨t.op=4∨t.op=10∨t.op=11:=by omega
 rcases hcase with ho | ho | ho | ho | ho | ho
 ·simp only [vB,ho,if_pos,jI.go.injEq] at ht
  refine hkey t.r t.n r0 r1 ht.symm ?_
  simp [alu,gQ,qBf,ho]
 ·simp [vB,ho] at ht
  refine hkey t.r _ r0 r1 ht.symm ?_
  simp [alu,gQ,qBf,ho,ea,eb]
 ·simp [vB,ho] at ht
  refine hkey t.r _ r0 r1 ht.symm ?_
  simp [alu,gQ,qBf,ho,ea,eb]
 ·simp [vB,ho] at ht
  refine hkey t.r _ r0 r1 ht.symm ?_
  simp [alu,gQ,qBf,ho,ea,eb]
 ·simp [vB,ho] at ht
  split at ht
  case isFalse=>exact absurd ht (by simp)
  rename_i hg
  simp only [jI.go.injEq] at ht
  subst ht
  refine key _ rfl ?_ ?_ rfl rfl rfl rfl rfl
  ·have:({alu (qJ m i) t with at_:=gQ (qJ m i) t}:uL)=⟨t.n,(qJ m i).regs,(qJ m i).view,(qJ m i).st⟩:=by simp [alu,gQ,ho]
   rw [this]
   exact hc.move _ _ _ (by omega)
  ·simp [alu,ho]
 ·simp [vB,ho] at ht
  split at ht
  case isFalse=>exact absurd ht (by simp)
  rename_i hg
  simp only [jI.go.injEq] at ht
  subst ht
  refine key _ rfl ?_ ?_ rfl rfl rfl rfl rfl
  ·have:({alu (qJ m i) t with at_:=gQ (qJ m i) t}:uL)=⟨if s.get t.a=0 then t.n else (qJ m i).at_+1,(qJ m i).regs,(qJ m i).view,(qJ m i).st⟩:=by simp [alu,gQ,ho,ea]
   rw [this]
   refine hc.move _ _ _ ?_
   split<;>omega
  ·simp [alu,ho]
theorem tT (cs:List (List wZ)) (view:List Int) (cell:Nat) (v:Int) (go:Bool):store cs view cell v go=(cs.set cell (cs.getD cell []++[⟨v,if go then view.set cell ((cs.getD cell []).length:Int) else (wBj 24 0).set cell ((cs.getD cell []).length:Int)⟩]),view.set cell ((cs.getD cell []).length:Int)):=rfl
theorem pY {m:qT} {i:Nat} {late:Int} {c:Nat} (h0:eZ m i=0) (hm:cA (qS m i).op=true) (hcell:bF (qJ m i) (qS m i)=c) (hc:c<24) (hn:(qJ m i).at_+1<((m.codes.getD i []).length:Int)) :
  jD m ⟨i,late⟩=(dQ {m with mem:=⟨(dM m.mem.cells (qJ m i) (qS m i) c late).1⟩} i {(dM m.mem.cells (qJ m i) (qS m i) c late).2 with at_:=(qJ m i).at_+1},0):=by
 have h12:(qS m i).op≠12:=by intro e; rw [e] at hm; exact absurd hm (by decide)
 have h13:(qS m i).op≠13:=by intro e; rw [e] at hm; exact absurd hm (by decide)
 rw [oJ h0]
 unfold mdo
 simp only
 rw [if_neg h12,if_neg h13,hm,if_pos rfl,hcell]
 have hw:qW (c:Int) 0 23=true:=by rw [qL]; omega
 rw [hw,if_pos rfl,wDg]
 unfold qHt
 simp only
 rw [if_neg (by omega)]
theorem qOs {m:qT} {i:Nat} {f:Int} {b:Nat} {s:So} {c:Nat} {v:Int} (hM:MOk m) (hi:i<m.cores.length) (hc:mZ (qJ m i) f s)
  (hd:qCj m.mem.cells b s∧iV m.mem.cells b s.dat.length (qJ m i).view) (ho:(qS m i).op=5) (hcell:bF (qJ m i) (qS m i)=c) (h1:b+1≤c) (h2:c<b+4+s.dat.length) (h24:b+4+s.dat.length≤24) (hv:jN m.mem.cells c=v)
  (hn:f+(s.k+1)<((m.codes.getD i []).length:Int)) :∃m',(∀late,jD m ⟨i,late⟩=(m',0))∧qB7 m m' i f b s ((s.put (qS m i).r v).to (s.k+1)):=by
 obtain ⟨r0,r1,_⟩:=xO (cX hM hi)
 have hm:cA (qS m i).op=true:=by rw [ho]; rfl
 have hat:=hc.at_
 have hK:=hM.core i hi
 have h0:eZ m i=0:=by
  rw [fC hi,if_neg (by rw [hc.st]; simp [ho]),ho]
  simp
 have hcv:(qJ m i).view.getD c 0=((m.mem.cells.getD c []).length:Int)-1:=by
  have:=hd.2 (c-b) (by omega) (by omega)
  rw [show b+(c-b)=c by omega] at this
  exact this
 have hac :∀late,dM m.mem.cells (qJ m i) (qS m i) c late=(m.mem.cells,⟨(qJ m i).at_,(qJ m i).regs.set (qS m i).r.toNat v,(qJ m i).view,(qJ m i).st⟩):=by
  intro late
  unfold dM
  rw [if_pos ho]
  simp only
  rw [qTw hM.mem hK.view (by omega) hcv,hv]
 obtain ⟨p1,p2,p3,p4,p5,p6⟩:=So.put_dat s (qS m i).r v
 refine ⟨dQ m i ⟨(qJ m i).at_+1,(qJ m i).regs.set (qS m i).r.toNat v,(qJ m i).view,(qJ m i).st⟩,fun late=>?_,?_⟩
 ·rw [pY h0 hm hcell (by omega) (by omega),hac late]
 ·exact qGx hi (hc.put r0 r1 _ _ _ (by rw [hat]; push_cast; omega)) rfl p1 p2 p3 p4 p5 (fun _=>hd)
theorem zY {cs:List (List wZ)} {c d:Nat} (x:List wZ) (hc:c<cs.length):(cs.set c x).getD d []=if d=c then x else cs.getD d []:=uN _ _ _ _ _ hc
theorem qLv {m:qT} {i:Nat} {f:Int} {b:Nat} {s s':So} {c:Nat} (hM:MOk m) (hi:i<m.cores.length) (hc:mZ (qJ m i) f s) (hh:s.hold=true)
  (hd:qCj m.mem.cells b s∧iV m.mem.cells b s.dat.length (qJ m i).view) (ho:(qS m i).op=6) (hcell:bF (qJ m i) (qS m i)=c) (h1:b+1≤c) (h2:c<b+4+s.dat.length) (h24:b+4+s.dat.length≤24)
  (hn:f+(s.k+1)<((m.codes.getD i []).length:Int)) (hlow:s'.low=s.low∧s'.t4=s.t4∧s'.t5=s.t5∧s'.t6=s.t6∧s'.t7=s.t7∧s'.k=s.k+1∧s'.hold=true) (hdl:s'.dat.length=s.dat.length)
  (hf:s'.fst=if c=b+1 then s.get (qS m i).b else s.fst) (hct:s'.cnt=if c=b+2 then s.get (qS m i).b else s.cnt) (hcl:s'.cls=if c=b+3 then s.get (qS m i).b else s.cls)
  (hdt :∀j:Nat,j<s.dat.length→s'.dat.getD j 0=if c=b+4+j then s.get (qS m i).b else s.dat.getD j 0) :
  (∀late,jD m ⟨i,late⟩=(m,3))∨∃m',(∀late,jD m ⟨i,late⟩=(m',0))∧qB7 m m' i f b s s':=by
 obtain ⟨r0,r1,b0,b1,_⟩:=xO (cX hM hi)
 have hm:cA (qS m i).op=true:=by rw [ho]; rfl
 have hat:=hc.at_
 have hK:=hM.core i hi
 have hlen:=hM.mem.len
 rcases qBx hi hc.st hm with h3 | ⟨h0,hroom⟩
 ·exact .inl fun late=>fO h3
 right
 have hvb:=hc.get b0 b1
 have hac :∀late,dM m.mem.cells (qJ m i) (qS m i) c late=(m.mem.cells.set c (m.mem.cells.getD c []++[⟨s.get (qS m i).b,(wBj 24 0).set c ((m.mem.cells.getD c []).length:Int)⟩]),{qJ m i with view:=(qJ m i).view.set c ((m.mem.cells.getD c []).length:Int)}):=by
  intro late
  unfold dM
  rw [if_neg (by omega),if_neg (by omega)]
  simp only
  rw [tT,hvb,ho]
  rfl
 have hcl24:c<m.mem.cells.length:=by omega
 refine ⟨dQ {m with mem:=⟨m.mem.cells.set c (m.mem.cells.getD c []++[⟨s.get (qS m i).b,(wBj 24 0).set c ((m.mem.cells.getD c []).length:Int)⟩])⟩} i ⟨(qJ m i).at_+1,(qJ m i).regs,(qJ m i).view.set c ((m.mem.cells.getD c []).length:Int),(qJ m i).st⟩,fun late=>?_,?_⟩
 ·rw [pY h0 hm hcell (by omega) (by omega),hac late]
 obtain ⟨l1,l2,l3,l4,l5,l6,l7⟩:=hlow
 have hvl:(qJ m i).view.length=24:=hK.view.1
 have hself:=vL {m with mem:=⟨m.mem.cells.set c (m.mem.cells.getD c []++[⟨s.get (qS m i).b,(wBj 24 0).set c ((m.mem.cells.getD c []).length:Int)⟩])⟩} i ⟨(qJ m i).at_+1,(qJ m i).regs,(qJ m i).view.set c ((m.mem.cells.getD c []).length:Int),(qJ m i).st⟩ hi
 refine ⟨rfl,rfl,kW _ _ _,fun j hj=>by rw [eB _ _ _ _ hj]; rfl,?_,hdl,?_,?_,?_,?_⟩
 ·rw [hself]
  exact ⟨by rw [l6,hat]; push_cast; omega,by rw [l1,l2,l3,l4,l5]; exact hc.regs,by rw [l1]; exact hc.low,hc.st⟩
 ·intro _
  refine ⟨hh,?_,?_,?_⟩
  ·obtain ⟨d1,d2,d3,d4⟩:=hd.1
   refine ⟨?_,?_,?_,fun j hj=>?_⟩
   ·show jN (m.mem.cells.set c _) (b+1)=_
    rw [bZ _ hcl24,hf,d1]
    simp only [eq_comm]
   ·show jN (m.mem.cells.set c _) (b+2)=_
    rw [bZ _ hcl24,hct,d2]
    simp only [eq_comm]
   ·show jN (m.mem.cells.set c _) (b+3)=_
    rw [bZ _ hcl24,hcl,d3]
    simp only [eq_comm]
   ·show jN (m.mem.cells.set c _) (b+4+j)=_
    rw [bZ _ hcl24,hdt j (by omega),d4 j (by omega)]
    simp only [eq_comm]
  ·rw [hself]
   intro j hj1 hj2
   show ((qJ m i).view.set c _).getD (b+j) 0=(((m.mem.cells.set c _).getD (b+j) []).length:Int)-1
   rw [uN _ _ _ _ _ (by omega),zY _ hcl24]
   by_cases e:b+j=c
   ·rw [if_pos e,if_pos e]
    simp
   ·rw [if_neg e,if_neg e]
    exact hd.2 j hj1 hj2
  ·show (m.mem.cells.set c _).getD b []=_
   rw [zY _ hcl24,if_neg (by omega)]
 ·intro d hd'
  show (m.mem.cells.set c _).getD d []=_
  rw [zY _ hcl24,if_neg (by omega)]
 ·intro h
  rw [hh] at h
  exact absurd h (by decide)
 ·intro _ h
  rw [l7] at h
  exact absurd h (by decide)
theorem qR0 {m:qT} {i:Nat} {f:Int} {b:Nat} {s s':So} (hM:MOk m) (hi:i<m.cores.length) (hc:mZ (qJ m i) f s) (hh:s.hold=true)
  (hd:qCj m.mem.cells b s∧iV m.mem.cells b s.dat.length (qJ m i).view) (ho:(qS m i).op=7) (hcell:bF (qJ m i) (qS m i)=b) (h24:b+4+s.dat.length≤24) (hz:s.get (qS m i).b=0)
  (hn:f+(s.k+1)<((m.codes.getD i []).length:Int)) (hs:s' = {s with hold:=false}.to (s.k+1)) :
  (∀late,jD m ⟨i,late⟩=(m,3))∨∃m',(∀late,jD m ⟨i,late⟩=(m',0))∧qB7 m m' i f b s s':=by
 obtain ⟨r0,r1,b0,b1,_⟩:=xO (cX hM hi)
 have hm:cA (qS m i).op=true:=by rw [ho]; rfl
 have hat:=hc.at_
 have hK:=hM.core i hi
 have hlen:=hM.mem.len
 rcases qBx hi hc.st hm with h3 | ⟨h0,hroom⟩
 ·exact .inl fun late=>fO h3
 right
 have hvb:=hc.get b0 b1
 rw [hz] at hvb
 have hac :∀late,dM m.mem.cells (qJ m i) (qS m i) b late=(m.mem.cells.set b (m.mem.cells.getD b []++[⟨0,(qJ m i).view.set b ((m.mem.cells.getD b []).length:Int)⟩]),{qJ m i with view:=(qJ m i).view.set b ((m.mem.cells.getD b []).length:Int)}):=by
  intro late
  unfold dM
  rw [if_neg (by omega),if_neg (by omega)]
  simp only
  rw [tT,hvb,ho]
  rfl
 have hcl24:b<m.mem.cells.length:=by omega
 refine ⟨dQ {m with mem:=⟨m.mem.cells.set b (m.mem.cells.getD b []++[⟨0,(qJ m i).view.set b ((m.mem.cells.getD b []).length:Int)⟩])⟩} i ⟨(qJ m i).at_+1,(qJ m i).regs,(qJ m i).view.set b ((m.mem.cells.getD b []).length:Int),(qJ m i).st⟩,fun late=>?_,?_⟩
 ·rw [pY h0 hm hcell (by omega) (by omega),hac late]
 subst hs
 have hvl:(qJ m i).view.length=24:=hK.view.1
 have hself:=vL {m with mem:=⟨m.mem.cells.set b (m.mem.cells.getD b []++[⟨0,(qJ m i).view.set b ((m.mem.cells.getD b []).length:Int)⟩])⟩} i ⟨(qJ m i).at_+1,(qJ m i).regs,(qJ m i).view.set b ((m.mem.cells.getD b []).length:Int),(qJ m i).st⟩ hi
 refine ⟨rfl,rfl,kW _ _ _,fun j hj=>by rw [eB _ _ _ _ hj]; rfl,?_,rfl,?_,?_,?_,?_⟩
 ·rw [hself]
  exact ⟨by rw [hat]; simp only [So.to]; push_cast; omega,hc.regs,hc.low,hc.st⟩
 ·intro h
  exact absurd h (by simp [So.to])
 ·intro d hd'
  show (m.mem.cells.set b _).getD d []=_
  rw [zY _ hcl24,if_neg (by omega)]
 ·intro h
  rw [hh] at h
  exact absurd h (by decide)
 ·intro _ _
  refine ⟨?_,?_,?_⟩
  ·show jN (m.mem.cells.set b _) b=0
   rw [bZ _ hcl24,if_pos rfl]
  ·obtain ⟨d1,d2,d3,d4⟩:=hd.1
   refine ⟨?_,?_,?_,fun j hj=>?_⟩
   ·show jN (m.mem.cells.set b _) (b+1)=_
    rw [bZ _ hcl24,if_neg (by omega),d1]
    rfl
   ·show jN (m.mem.cells.set b _) (b+2)=_
    rw [bZ _ hcl24,if_neg (by omega),d2]
    rfl
   ·show jN (m.mem.cells.set b _) (b+3)=_
    rw [bZ _ hcl24,if_neg (by omega),d3]
    rfl
   ·show jN (m.mem.cells.set b _) (b+4+j)=_
    rw [bZ _ hcl24,if_neg (by omega)]
    exact d4 j hj
  ·show iV (m.mem.cells.set b _) b _ ((((m.mem.cells.set b _).getD b []).getD (((m.mem.cells.set b _).getD b []).length-1) default).view)
   rw [zY _ hcl24,if_pos rfl]
   have e:((m.mem.cells.getD b []++[(⟨0,(qJ m i).view.set b ((m.mem.cells.getD b []).length:Int)⟩:wZ)]).getD ((m.mem.cells.getD b []++[(⟨0,(qJ m i).view.set b ((m.mem.cells.getD b []).length:Int)⟩:wZ)]).length-1) default)=⟨0,(qJ m i).view.set b ((m.mem.cells.getD b []).length:Int)⟩:=by simp [wBr]
   rw [e]
   intro j hj1 hj2
   rw [uN _ _ _ _ _ (by omega),if_neg (by omega),zY _ hcl24,if_neg (by omega)]
   exact hd.2 j hj1 hj2
theorem qQv {K:uL} {t:jB} (ha:t.a=-1):bF K t=t.n:=by
 unfold bF
 rw [if_neg (by omega)]
theorem qQu {K:uL} {t:jB} (h8:t.op≠8) (ha:0≤t.a) (h0:0≤t.n+rg K t.a) (h1:t.n+rg K t.a<2^63):bF K t=t.n+rg K t.a:=by
 unfold bF
 rw [if_pos ⟨h8,ha⟩]
 exact yL (by omega) h1
theorem wAe {m:qT} {i:Nat} {f:Int} {b:Nat} {s s':So} (hM:MOk m) (hi:i<m.cores.length) (hc:mZ (qJ m i) f s)
  (hd:s.hold=true→qCj m.mem.cells b s∧iV m.mem.cells b s.dat.length (qJ m i).view) (h24:b+4+s.dat.length≤24) (ht:vB f b (qS m i) s=.go s') (hn:f+s'.k<((m.codes.getD i []).length:Int)) (hf:0≤f) :
  (∀late,jD m ⟨i,late⟩=(m,3))∨∃m',(∀late,jD m ⟨i,late⟩=(m',0))∧qB7 m m' i f b s s':=by
 obtain ⟨r0,r1,b0,b1,o0,o1,ha⟩:=xO (cX hM hi)
 by_cases hop:(qS m i).op≤4∨(qS m i).op=10∨(qS m i).op=11
 ·exact .inr (qLw hM hi hc hd ht hn hf hop)
 have hga:=fun h=>hc.get (r:=(qS m i).a) h (by omega)
 have hlo:=@qOs m i f b s
 have hso:=@qLv m i f b s s'
 have hle:=@qR0 m i f b s s'
 have hcr:=@qQu (qJ m i) (qS m i)
 have hca:=@qQv (qJ m i) (qS m i)
 unfold vB at ht
 rw [if_neg (by omega),if_neg (by omega),if_neg (by omega),if_neg (by omega),if_neg (by omega),if_neg (by omega)] at ht
 split at ht
 ·exact absurd ht (by simp)
 split at ht
 ·exact absurd ht (by simp)
 rename_i h13 hh
 have hh:s.hold=true:=by simpa using hh
 have hd:=hd hh
 unfold vR at ht
 split at ht
 ·rename_i h5
  unfold gP at ht
  split at ht
  ·rename_i h1
   have hcell:=hca h1
   have go :∀(c:Nat) (v:Int),(qS m i).n=c→b+1≤c→c<b+4+s.dat.length→jN m.mem.cells c=v→s'=(s.put (qS m i).r v).to (s.k+1)→(∀late,jD m ⟨i,late⟩=(m,3))∨∃m',(∀late,jD m ⟨i,late⟩=(m',0))∧qB7 m m' i f b s s':=by
    intro c v e1 e2 e3 e4 e5
    subst e5
    exact .inr (hlo hM hi hc hd h5 (by rw [hcell,e1]) e2 e3 h24 e4 (by simpa [So.to] using hn))
   repeat' split at ht
   ·rename_i e
    simp only [jI.go.injEq] at ht
    exact go (b+1) s.fst (by rw [e]; push_cast; rfl) (by omega) (by omega) hd.1.fst ht.symm
   ·rename_i _ e
    simp only [jI.go.injEq] at ht
    exact go (b+2) s.cnt (by rw [e]; push_cast; rfl) (by omega) (by omega) hd.1.cnt ht.symm
   ·rename_i _ _ e
    simp only [jI.go.injEq] at ht
    exact go (b+3) s.cls (by rw [e]; push_cast; rfl) (by omega) (by omega) hd.1.cls ht.symm
   ·exact absurd ht (by simp)
  ·split at ht
   ·rename_i hne hx
    obtain ⟨x1,x2,x3,x4⟩:=hx
    simp only [jI.go.injEq] at ht
    subst ht
    have hg:=hga x2
    have hcell:bF (qJ m i) (qS m i)=((b+4+(s.get (qS m i).a).toNat:Nat):Int):=by
     rw [hcr (by omega) x2 (by rw [hg]; omega) (by rw [hg]; omega),hg]
     omega
    exact .inr (hlo hM hi hc hd h5 hcell (by omega) (by omega) h24 (hd.1.dat _ x4) (by simpa [So.to] using hn))
   ·exact absurd ht (by simp)
 split at ht
 ·rename_i h5 h6
  unfold gO at ht
  split at ht
  ·rename_i h1
   have hcell:=hca h1
   repeat' split at ht
   ·rename_i e
    simp only [jI.go.injEq] at ht
    subst ht
    refine hso (c:=b+1) hM hi hc hh hd h6 (by rw [hcell,e]; push_cast; rfl) (by omega) (by omega) h24 (by simpa [So.to] using hn) ⟨rfl,rfl,rfl,rfl,rfl,rfl,hh⟩ rfl ?_ ?_ ?_ (fun j hj=>?_)
    ·rw [if_pos rfl]; rfl
    ·rw [if_neg (by omega)]; rfl
    ·rw [if_neg (by omega)]; rfl
    ·rw [if_neg (by omega)]; rfl
   ·rename_i _ e
    simp only [jI.go.injEq] at ht
    subst ht
    refine hso (c:=b+2) hM hi hc hh hd h6 (by rw [hcell,e]; push_cast; rfl) (by omega) (by omega) h24 (by simpa [So.to] using hn) ⟨rfl,rfl,rfl,rfl,rfl,rfl,hh⟩ rfl ?_ ?_ ?_ (fun j hj=>?_)
    ·rw [if_neg (by omega)]; rfl
    ·rw [if_pos rfl]; rfl
    ·rw [if_neg (by omega)]; rfl
    ·rw [if_neg (by omega)]; rfl
   ·rename_i _ _ e
    simp only [jI.go.injEq] at ht
    subst ht
    refine hso (c:=b+3) hM hi hc hh hd h6 (by rw [hcell,e]; push_cast; rfl) (by omega) (by omega) h24 (by simpa [So.to] using hn) ⟨rfl,rfl,rfl,rfl,rfl,rfl,hh⟩ rfl ?_ ?_ ?_ (fun j hj=>?_)
    ·rw [if_neg (by omega)]; rfl
    ·rw [if_neg (by omega)]; rfl
    ·rw [if_pos rfl]; rfl
    ·rw [if_neg (by omega)]; rfl
   ·exact absurd ht (by simp)
  ·split at ht
   ·rename_i hne hx
    obtain ⟨x1,x2,x3,x4⟩:=hx
    simp only [jI.go.injEq] at ht
    subst ht
    have hg:=hga x2
    have hcell:bF (qJ m i) (qS m i)=((b+4+(s.get (qS m i).a).toNat:Nat):Int):=by
     rw [hcr (by omega) x2 (by rw [hg]; omega) (by rw [hg]; omega),hg]
     omega
    refine hso hM hi hc hh hd h6 hcell (by omega) (by omega) h24 (by simpa [So.to] using hn) ⟨rfl,rfl,rfl,rfl,rfl,rfl,hh⟩ (by simp [So.to]) ?_ ?_ ?_ (fun j hj=>?_)
    ·rw [if_neg (by omega)]; rfl
    ·rw [if_neg (by omega)]; rfl
    ·rw [if_neg (by omega)]; rfl
    ·show (s.dat.set _ _).getD j 0=_
     rw [kV x4]
     by_cases e:j=(s.get (qS m i).a).toNat
     ·rw [if_pos e,if_pos (by omega)]
     ·rw [if_neg e,if_neg (by omega)]
   ·exact absurd ht (by simp)
 split at ht
 ·rename_i h5 h6 h7
  unfold uP at ht
  split at ht
  ·rename_i hx
   simp only [jI.go.injEq] at ht
   exact hle hM hi hc hh hd h7 (by rw [hca hx.1,hx.2.1]) h24 hx.2.2 (by rw [←ht] at hn; simpa [So.to] using hn) ht.symm
  ·exact absurd ht (by simp)
 ·exact absurd ht (by simp)
def body (p:wQ) (i:Nat):List Ins:=p.bods.getD i []
def thd (s:wA) (i:Nat):yP:=s.ths.getD i default
def plc (p:wQ) (i j:Nat):Ins:=(body p i).getD j default
def frm (p:wQ) (i j:Nat):Int:=szB ((body p i).take j)
def chn (s:wA) (n:Nat):jZ:=s.chs.getD n default
def cO (x:Ins):Prop:=5≤x.op∧x.op≤9
inductive qB6 (p:wQ) (m:qT) (s:wA) (own:Nat→Option Nat) (i:Nat):Prop where
 | over (h:(qJ m i).st≠0) (hs:(thd s i).st=(qJ m i).st) (ho :∀n,own n≠some i)
 | out (k:Nat) (h:(qJ m i).st=0) (hs:(thd s i).st=0) (ha:(qJ m i).at_=frm p i (thd s i).at_.toNat+k) (hr:(qJ m i).regs.take 4=(thd s i).regs)
   (hk:k=0∨(cO (plc p i (thd s i).at_.toNat)∧(k=1∧(qJ m i).regs.getD 7 0=1∨k=2∧(qJ m i).regs.getD 6 0≠0∨k=3))) (ho :∀n,own n≠some i)
 | inner (j n N:Nat) (a e:So) (fl:Bool) (hj:j<(body p i).length) (hx:cO (plc p i j)) (hn:(plc p i j).n=n) (hc:mZ (qJ m i) (frm p i j) a) (hst:a.settled (wL (plc p i j)).toNat=false) (hk1:1≤a.k)
   (hN:N+a.k≤(wL (plc p i j)).toNat) (hs:aA (frm p i j) (bs p.caps n) (vI (frm p i j) (bs p.caps n) (cp p.caps n) (plc p i j)) N a=some (e,fl)) (hd:a.dat.length=cp p.caps n)
   (hf:fl=true→(thd s i).st=2) (hg:fl=false→(thd s i).st=0∧(thd s i).at_=(if e.k=0 then (j:Int) else j+1)∧e.low=(thd s i).regs)
   (hh:a.hold=true→own n=some i∧qCj m.mem.cells (bs p.caps n) a∧iV m.mem.cells (bs p.caps n) (cp p.caps n) (qJ m i).view∧aI e (chn s n))
   (ho :∀n',own n'=some i→n'=n∧a.hold=true)
structure qH8 (p:wQ) (m:qT) (s:wA) (own:Nat→Option Nat) (n:Nat):Prop where
 free:own n=none→jN m.mem.cells (bs p.caps n)=0∧iV m.mem.cells (bs p.caps n) (cp p.caps n) ((m.mem.cells.getD (bs p.caps n) []).getD ((m.mem.cells.getD (bs p.caps n) []).length-1) default).view∧∃a:So,a.dat.length=cp p.caps n∧qCj m.mem.cells (bs p.caps n) a∧aI a (chn s n)
 held :∀i,own n=some i→i<m.cores.length∧jN m.mem.cells (bs p.caps n)=1
structure Inv (p:wQ) (m:qT) (s:wA):Prop where
 mok:MOk m
 codes:m.codes=p.bods.map (comp p.caps)
 prog:yR p=true
 lie:xG p.caps=true
 src:wG p s=true
 tr:m.tr=s.tr
 own :∃own:Nat→Option Nat,(∀i,i<m.cores.length→qB6 p m s own i)∧(∀n,n<p.caps.length→qH8 p m s own n)
theorem qB6.frame {p:wQ} {m m':qT} {s s':wA} {own own':Nat→Option Nat} {i:Nat} (h:qB6 p m s own i) (h1:qJ m' i=qJ m i) (h2:thd s' i=thd s i) (h3 :∀n,own' n=some i↔own n=some i)
  (h4 :∀n,own n=some i→(∀c,bs p.caps n+1≤c→c<bs p.caps n+4+cp p.caps n→m'.mem.cells.getD c []=m.mem.cells.getD c [])∧chn s' n=chn s n):qB6 p m' s' own' i:=by
 cases h with
 | over h hs ho=>exact .over (by rw [h1]; exact h) (by rw [h1,h2]; exact hs) (fun n e=>ho n ((h3 n).1 e))
 | out k h hs ha hr hk ho=>exact .out k (by rw [h1]; exact h) (by rw [h2]; exact hs) (by rw [h1,h2]; exact ha) (by rw [h1,h2]; exact hr) (by rw [h1,h2]; exact hk) (fun n e=>ho n ((h3 n).1 e))
 | inner j n N a e fl hj hx hn hc hst hk1 hN hs hd hf hg hh ho =>
  refine .inner j n N a e fl hj hx hn (by rw [h1]; exact hc) hst hk1 hN hs hd (by rw [h2]; exact hf) (by rw [h2]; exact hg) (fun hhold=>?_) (fun n' e=>ho n' ((h3 n').1 e))
  obtain ⟨a1,a2,a3,a4⟩:=hh hhold
  obtain ⟨f1,f2⟩:=h4 n a1
  have hl :∀c,bs p.caps n+1≤c→c<bs p.caps n+4+cp p.caps n→jN m'.mem.cells c=jN m.mem.cells c:=fun c hc1 hc2=>by unfold jN; rw [f1 c hc1 hc2]
  refine ⟨(h3 n).2 a1,⟨?_,?_,?_,fun q hq=>?_⟩,fun q hq1 hq2=>?_,by rw [f2]; exact a4⟩
  ·rw [hl _ (by omega) (by omega)]; exact a2.fst
  ·rw [hl _ (by omega) (by omega)]; exact a2.cnt
  ·rw [hl _ (by omega) (by omega)]; exact a2.cls
  ·rw [hl _ (by omega) (by omega)]; exact a2.dat q hq
  ·rw [h1,f1 _ (by omega) (by omega)]; exact a3 q hq1 hq2
theorem qH8.frame {p:wQ} {m m':qT} {s s':wA} {own own':Nat→Option Nat} {n:Nat} (h:qH8 p m s own n) (h1:own' n=own n) (h2 :∀c,bs p.caps n≤c→c<bs p.caps n+4+cp p.caps n→own n=none→m'.mem.cells.getD c []=m.mem.cells.getD c [])
  (h3 :∀i,own n=some i→jN m'.mem.cells (bs p.caps n)=1) (h4:own n=none→chn s' n=chn s n) (h5:m'.cores.length=m.cores.length):qH8 p m' s' own' n:=by
 refine ⟨fun e=>?_,fun i e=>?_⟩
 ·rw [h1] at e
  obtain ⟨a1,a2,a,a3,a4,a5⟩:=h.free e
  have hg :∀c,bs p.caps n≤c→c<bs p.caps n+4+cp p.caps n→m'.mem.cells.getD c []=m.mem.cells.getD c []:=fun c h6 h7=>h2 c h6 h7 e
  have hl :∀c,bs p.caps n≤c→c<bs p.caps n+4+cp p.caps n→jN m'.mem.cells c=jN m.mem.cells c:=fun c hc1 hc2=>by unfold jN; rw [hg c hc1 hc2]
  refine ⟨by rw [hl _ (by omega) (by omega)]; exact a1,?_,a,a3,⟨?_,?_,?_,fun q hq=>?_⟩,by rw [h4 e]; exact a5⟩
  ·rw [hg _ (by omega) (by omega)]
   intro q hq1 hq2
   rw [hg _ (by omega) (by omega)]
   exact a2 q hq1 hq2
  ·rw [hl _ (by omega) (by omega)]; exact a4.fst
  ·rw [hl _ (by omega) (by omega)]; exact a4.cnt
  ·rw [hl _ (by omega) (by omega)]; exact a4.cls
  ·rw [hl _ (by omega) (by omega)]; exact a4.dat q hq
 ·rw [h1] at e
  exact ⟨by rw [h5]; exact (h.held i e).1,h3 i e⟩
structure Fix (p:wQ) (m:qT) (s:wA) (i:Nat):Prop where
 hi:i<m.cores.length
 hb:i<p.bods.length
 ht:i<s.ths.length
 bok:wF (body p i) p.caps.length=true
 code:m.codes.getD i []=comp p.caps (body p i)
 regs:(thd s i).regs.length=4
 at0:0≤(thd s i).at_
 at1:(thd s i).at_.toNat<(body p i).length
 st:0≤(thd s i).st∧(thd s i).st≤2
theorem Inv.fix {p:wQ} {m:qT} {s:wA} (h:Inv p m s) {i:Nat} (hi:i<m.cores.length):Fix p m s i:=by
 have hl:m.codes.length=p.bods.length:=by rw [h.codes,wDq]
 have hc:=h.mok.cores
 have hs:=(jE p s).1 h.src
 have ht:i<s.ths.length:=by omega
 have ha:=qB4 h.src ht
 have hth:=hs.2.2.2.2.1 i ht
 simp only [uC,wBp,decide_eq_true_eq,qL] at hth
 refine ⟨hi,by omega,ht,(oB h.prog).2.2.2.2 _ (yB p.bods i [] (by omega)),?_,ha.regs,ha.at0,ha.at1,by unfold thd; omega⟩
 rw [h.codes]
 unfold body
 simp [wBr,show i<p.bods.length by omega]
theorem Fix.ins {p:wQ} {m:qT} {s:wA} {i:Nat} (F:Fix p m s i) {j:Nat} (hj:j<(body p i).length):jJ (plc p i j) (body p i).length p.caps.length=true:=qGq F.bok j hj
theorem Fix.op {p:wQ} {m:qT} {s:wA} {i:Nat} (F:Fix p m s i) {j:Nat} (hj:j<(body p i).length):1≤(plc p i j).op∧(plc p i j).op≤13∧Op4 (plc p i j):=by
 obtain ⟨a,b,c,d⟩:=oX (F.ins hj)
 rw [qL] at a b c d
 exact ⟨a.1,a.2,by omega,by omega,by omega,by omega,by omega,by omega⟩
theorem qAo {p:wQ} {i j:Nat} (hj:j<(body p i).length):frm p i (j+1)=frm p i j+wL (plc p i j):=nQ (body p i) j hj
theorem qQe (p:wQ) (i j:Nat):0≤frm p i j:=(qCn (body p i) j).1
theorem Fix.last {p:wQ} {m:qT} {s:wA} {i:Nat} (F:Fix p m s i) {j:Nat} (hj:j<(body p i).length) (h11:(plc p i j).op≠11) (h13:(plc p i j).op≠13):j+1<(body p i).length:=by
 have hb:=F.bok
 unfold wF xK at hb
 simp only [wBp,wC0,decide_eq_true_eq] at hb
 have hl:=hb.2
 rcases Nat.lt_or_ge (j+1) (body p i).length with h | h
 ·exact h
 ·exfalso
  have e:(body p i).length-1=j:=by omega
  rw [e] at hl
  unfold plc at h11 h13
  omega
theorem Fix.size {p:wQ} {m:qT} {s:wA} {i:Nat} (F:Fix p m s i) {j:Nat} (hj:j<(body p i).length):1≤wL (plc p i j):=by
 have:=F.op hj
 exact qLi ⟨this.1,this.2.1⟩
theorem Fix.frm_lt {p:wQ} {m:qT} {s:wA} {i:Nat} (F:Fix p m s i) (hl:xG p.caps=true) {j:Nat} (hj:j<(body p i).length):frm p i j+wL (plc p i j)≤((m.codes.getD i []).length:Int):=by
 rw [F.code,qUg F.bok hl]
 rw [←qAo hj]
 by_cases e:j+1=(body p i).length
 ·unfold frm
  rw [e,wDo]
  omega
 ·have:=qMl (b:=body p i) (fun q hq=>F.size hq) (j+1) (body p i).length (by omega) (wBo _)
  rw [wDo] at this
  exact Int.le_of_lt this
theorem Fix.frm_lt2 {p:wQ} {m:qT} {s:wA} {i:Nat} (F:Fix p m s i) (hl:xG p.caps=true) {j:Nat} (hj:j<(body p i).length):frm p i j<((m.codes.getD i []).length:Int):=by
 have:=F.frm_lt hl hj
 have:=F.size hj
 omega
theorem Fix.step {p:wQ} {m:qT} {s:wA} {i:Nat} (F:Fix p m s i) (hl:xG p.caps=true) {j k:Nat} (hj:j<(body p i).length) (hk:(k:Int)<wL (plc p i j)) (ha:(qJ m i).at_=frm p i j+k) :
  qS m i=(qAs p.caps (plc p i j) (frm p i j) (dB (body p i))).getD k default∧dS (body p i) 0 0 (qJ m i).at_=((j:Int),decide (k=0)):=by
 have h0:=qQe p i j
 constructor
 ·unfold qS
  rw [F.code]
  have:=(qX8 F.bok hl hj hk).2
  rw [show (qJ m i).at_.toNat=(szB ((body p i).take j)).toNat+k by rw [ha]; unfold frm at h0⊢; omega]
  exact this
 ·rw [qFg (body p i) 0 0 (qJ m i).at_ j hj (by rw [ha]; unfold frm; omega) (by rw [ha,nQ _ _ hj]; unfold frm; unfold plc at hk; omega)]
  refine Prod.ext (by simp) ?_
  show decide (_=_)=_
  rw [ha]
  congr 1
  apply propext
  unfold frm
  constructor<;>intro e<;>omega
theorem Fix.chan {p:wQ} {m:qT} {s:wA} {i:Nat} (F:Fix p m s i) (hl:xG p.caps=true) {j:Nat} (hj:j<(body p i).length) (hx:cO (plc p i j)) :
  ∃n:Nat,(plc p i j).n=n∧n<p.caps.length∧qAs p.caps (plc p i j) (frm p i j) (dB (body p i))=vI (frm p i j) (bs p.caps n) (cp p.caps n) (plc p i j)∧((vI (frm p i j) (bs p.caps n) (cp p.caps n) (plc p i j)).length:Int)=wL (plc p i j):=by
 have hin:=F.ins hj
 obtain ⟨n0,n1⟩:=qG1 hin hx.1 hx.2
 obtain ⟨n,hn⟩:=wDp n0
 have hnl:n<p.caps.length:=by omega
 obtain ⟨e1,e2,_,_,_⟩:=aC hl hnl
 have he:qAs p.caps (plc p i j) (frm p i j) (dB (body p i))=vI (frm p i j) (bs p.caps n) (cp p.caps n) (plc p i j):=by
  unfold qAs vI
  rw [show (dB (body p i)).length=(body p i).length from aL _ _,hin,if_pos rfl,qL.2 hx,if_pos rfl,hn,e1,if_neg (by omega),wDg,e2]
 refine ⟨n,hn,hnl,he,?_⟩
 rw [←he]
 exact qEd F.bok hl j hj _
theorem Fix.commits {p:wQ} {m:qT} {s:wA} {i:Nat} (F:Fix p m s i) (hl:xG p.caps=true) {j k:Nat} (hj:j<(body p i).length) (hk:(k:Int)<wL (plc p i j)) (ha:(qJ m i).at_=frm p i j+k) (t:jB) (regs:List Int) :
  lJ p t regs i (qJ m i).at_=((decide (t.op=8)&&qW t.r 0 (regs.length-1)&&decide (regs.getD t.r.toNat 0=0))||decide (wL (plc p i j)=1)):=by
 have hp:=(F.step hl hj hk ha).2
 have hb:=F.hb
 unfold lJ
 have d:decide ((i:Int)<(p.bods.length:Int))=true:=by simp; exact hb
 rw [d,wDg]
 show (true&&decide (0≤(dS (body p i) 0 0 (qJ m i).at_).1)&&_)=_
 rw [show p.bods.getD i []=body p i from rfl,hp]
 simp only [wDg]
 have d2:decide (0≤(j:Int))=true:=by simp
 rw [d2]
 rfl
theorem qLo {p:wQ} {m:qT} {s:wA} (h:Inv p m s) {n:Nat} (hn:n<p.caps.length):n<s.chs.length∧jT (chn s n)=true∧(chn s n).cap=cp p.caps n:=by
 have hs:=(jE p s).1 h.src
 have hl:n<s.chs.length:=by omega
 obtain ⟨a,b⟩:=hs.2.2.2.2.2 n hl
 exact ⟨hl,a,by unfold chn; rw [b]; exact (aC h.lie hn).2.1⟩
theorem Fix.one {p:wQ} {m:qT} {s:wA} {i:Nat} (F:Fix p m s i) (hl:xG p.caps=true) {j:Nat} (hj:j<(body p i).length) (hx :¬cO (plc p i j)):qAs p.caps (plc p i j) (frm p i j) (dB (body p i))=[single (plc p i j) (dB (body p i))]∧wL (plc p i j)=1:=by
 have hin:=F.ins hj
 have ho:=F.op hj
 refine ⟨?_,qLj ⟨ho.1,ho.2.1⟩ hx⟩
 unfold qAs
 rw [show (dB (body p i)).length=(body p i).length from aL _ _,hin,if_pos rfl]
 have hw:qW (plc p i j).op 5 9=false:=by
  cases h:qW (plc p i j).op 5 9
  ·rfl
  ·exact absurd (qL.1 h) hx
 rw [hw]
 rfl
theorem pP {s:wA} {i:Nat} (t:yP) (hi:i<s.ths.length) (chs:List jZ) (tr:List bP) (j:Nat):thd ⟨s.ths.set i t,chs,tr⟩ j=if j=i then t else thd s j:=by
 unfold thd
 exact iN _ _ _ _ _ hi
theorem Inv.go1 {p:wQ} {m:qT} {s:wA} {own:Nat→Option Nat} {i:Nat} (h:Inv p m s) (hC :∀i,i<m.cores.length→qB6 p m s own i) (hN :∀n,n<p.caps.length→qH8 p m s own n) (hi:i<m.cores.length) {K':uL} {tr':List bP} {t':yP}
  (hm:jD m ⟨i,0⟩=({dQ m i K' with tr:=tr'},0)) (hsrc:wG p ⟨s.ths.set i t',s.chs,tr'⟩=true)
  (hci:(K'.st≠0∧t'.st=K'.st)∨(K'.st=0∧t'.st=0∧K'.at_=frm p i t'.at_.toNat∧K'.regs.take 4=t'.regs)) (hno :∀n,own n≠some i):Inv p {dQ m i K' with tr:=tr'} ⟨s.ths.set i t',s.chs,tr'⟩:=by
 have F:=h.fix hi
 have hM':MOk {dQ m i K' with tr:=tr'}:=by
  have:=oI ⟨i,0⟩ ((vC m).2 h.mok)
  rw [hm] at this
  exact (vC _).1 this
 refine ⟨hM',h.codes,h.prog,h.lie,hsrc,rfl,own,fun j hj=>?_,fun n hn=>?_⟩
 ·by_cases e:j=i
  ·subst e
   have hself:qJ {dQ m j K' with tr:=tr'} j=K':=vL m j K' hi
   have ht:thd ⟨s.ths.set j t',s.chs,tr'⟩ j=t':=by rw [pP _ F.ht,if_pos rfl]
   rcases hci with ⟨c1,c2⟩ | ⟨c1,c2,c3,c4⟩
   ·exact .over (by rw [hself]; exact c1) (by rw [hself,ht]; exact c2) hno
   ·exact .out 0 (by rw [hself]; exact c1) (by rw [ht]; exact c2) (by rw [hself,ht,c3]; simp) (by rw [hself,ht]; exact c4) (.inl rfl) hno
  ·refine (hC j (by simpa [dQ] using hj)).frame (eB m i j K' e) ?_ (fun _=>Iff.rfl) (fun n _=>⟨fun _ _ _=>rfl,rfl⟩)
   rw [pP _ F.ht,if_neg e]
 ·exact (hN n hn).frame rfl (fun _ _ _ _=>rfl) (fun j e=>((hN n hn).held j e).2) (fun _=>rfl) (kW m i K')
theorem qSy {l:List Int} {r:Int} {v:Int}:(l.set r.toNat v).take 4=(l.take 4).set r.toNat v:=by rw [List.take_set]
theorem qRv {K:uL} {th:yP} {r:Int} (h:K.regs.take 4=th.regs) (h0:0≤r) (h1:r<4):rg K r=reg th r:=by
 unfold rg reg
 rw [←h]
 simp [wBr,List.getElem?_take,show r.toNat<4 by omega]
theorem nR {p:wQ} {s:wA} {i:Nat} (hi:i<s.ths.length) (hst:(thd s i).st=0):wU p s i=if (ins p s i).op=10∧(s.tr.length:Int)=4000 then 3 else if¬(ins p s i).op=5∧¬(ins p s i).op=6 then 0
  else if (chn s (ins p s i).n.toNat).closed=false∧(((ins p s i).op=5∧((chn s (ins p s i).n.toNat).list.length:Int)=(chn s (ins p s i).n.toNat).cap)∨((ins p s i).op=6∧((chn s (ins p s i).n.toNat).list.length:Int)=0)) then 4 else 0:=by
 unfold wU
 have hw:qW (i:Int) 0 ((s.ths.length:Int)-1)=true:=by rw [qL]; omega
 rw [hw,if_neg (by decide),wDg]
 have hst':(s.ths.getD i default).st=0:=hst
 rw [hst']
 simp only [not_true,false_or]
 rfl
theorem Inv.single {p:wQ} {m:qT} {s:wA} {own:Nat→Option Nat} {i:Nat} (h:Inv p m s) (hC :∀i,i<m.cores.length→qB6 p m s own i) (hN :∀n,n<p.caps.length→qH8 p m s own n) (hi:i<m.cores.length)
  (hst:(qJ m i).st=0) (hs:(thd s i).st=0) (ha:(qJ m i).at_=frm p i (thd s i).at_.toNat) (hr:(qJ m i).regs.take 4=(thd s i).regs) (hno :∀n,own n≠some i) (hx :¬cO (plc p i (thd s i).at_.toNat)) :
  (∀late,jD m ⟨i,late⟩=(m,3))∨∃m',(∀late,jD m ⟨i,late⟩=(m',0))∧wU p s i=0∧Inv p m' (wN p s i):=by
 have F:=h.fix hi
 obtain ⟨j,hj⟩:=wDp F.at0
 have hjn:(thd s i).at_.toNat=j:=by rw [hj]; rfl
 have hxe:plc p i j=Go.Sep.ins p s i:=by rw [←hjn]; rfl
 have hjl:=F.at1
 rw [hjn] at ha hx hjl
 have hinx:=F.ins hjl
 obtain ⟨o1,o2,o4⟩:=F.op hjl
 have hone:=F.one h.lie hjl hx
 have hstep:=(F.step h.lie hjl (k:=0) (by rw [hone.2]; decide) (by rw [ha]; simp)).1
 rw [hone.1,List.getD_cons_zero] at hstep
 have hlast:=fun a b=>F.last hjl a b
 have hsrc:=nR (p:=p) F.ht hs
 have hcs:=@kB p s i h.src F.ht
 have htr:=h.tr
 have hfs:=qAo hjl
 rw [hone.2] at hfs
 have hlt2:=fun q hq=>F.frm_lt2 h.lie (j:=q) hq
 have hjm:(plc p i j).op=11∨(plc p i j).op=12→0≤(plc p i j).n∧(plc p i j).n.toNat<(body p i).length:=fun e=>by
  have:=qO2 hinx e
  omega
 have hsg :∀q,q<(body p i).length→(dB (body p i)).getD q 0=frm p i q:=fun q hq=>qKl (body p i) _ q hq
 have hdo:wN p s i=wN p s i:=rfl
 conv at hdo=>rhs; unfold wN
 rw [←hxe] at hsrc hcs hdo
 have hth:s.ths.getD i default=thd s i:=rfl
 rw [hth,hj] at hdo
 have hbl:((p.bods.getD i []).length:Int)=(body p i).length:=rfl
 have hgo :∀(S:wA) (t:yP) (q:Int),q<(body p i).length→vQ p S i t true q=⟨S.ths.set i ⟨q,t.regs,t.st⟩,S.chs,S.tr⟩:=fun S t q hq=>by
  unfold vQ
  rw [hbl,if_neg (by simp; omega)]
 generalize plc p i j=x at *
 have hcase:x.op=1∨x.op=2∨x.op=3∨x.op=4∨x.op=10∨x.op=11∨x.op=12∨x.op=13:=by unfold cO at hx; omega
 have alu :∀(v:Int),x.op≤4→(qS m i).op≤4→Go.Sep.alu (qJ m i) (qS m i) = {qJ m i with regs:=(qJ m i).regs.set x.r.toNat v}→wN p s i=vQ p s i (wV (thd s i) x.r v) true ((j:Int)+1)→
   ∃m',(∀late,jD m ⟨i,late⟩=(m',0))∧wU p s i=0∧Inv p m' (wN p s i):=by
  intro v ho ho' hal hd
  have hl:=hlast (by omega) (by omega)
  have hn:gQ (qJ m i) (qS m i)=(qJ m i).at_+1:=by unfold gQ; rw [if_neg (by omega),if_neg (by omega)]
  have hm0:cA (qS m i).op=false:=by
   unfold cA
   have h5 :¬(qS m i).op=5:=by omega
   have h6 :¬(qS m i).op=6:=by omega
   have h7 :¬(qS m i).op=7:=by omega
   have h8 :¬(qS m i).op=8:=by omega
   simp [h5,h6,h7,h8]
  have hml:=fun late=>@eY m i late hi hst (by omega) (by omega) (by omega) hm0 (by rw [hn,ha]; have:=hlt2 (j+1) hl; omega)
  rw [hgo _ _ _ (by omega)] at hd
  have hs0:wG p (wN p s i)=true:=hcs (by omega)
  rw [hd] at hs0
  refine ⟨_,hml,by rw [hsrc,if_neg (by omega),if_pos (by omega)],?_⟩
  rw [hd]
  have:=h.go1 hC hN hi (K':={Go.Sep.alu (qJ m i) (qS m i) with at_:=gQ (qJ m i) (qS m i)}) (tr':=s.tr) (t':=⟨(j:Int)+1,(thd s i).regs.set x.r.toNat v,(thd s i).st⟩) (by rw [hml 0,←htr]; rfl) hs0 (.inr ?_) hno
  ·rw [←htr] at this⊢
   exact this
  ·rw [hal,hn]
   refine ⟨hst,hs,?_,?_⟩
   ·show (qJ m i).at_+1=frm p i ((j:Int)+1).toNat
    rw [show ((j:Int)+1).toNat=j+1 by omega,hfs,ha]
   ·show ((qJ m i).regs.set x.r.toNat v).take 4=_
    rw [qSy,hr]
 obtain ⟨r0,r1,a0,a1,b0,b1⟩:=o4
 have ga:=qRv hr a0 a1
 have gb:=qRv hr b0 b1
 rcases hcase with ho | ho | ho | ho | ho | ho | ho | ho
 ·have ht:qS m i=⟨1,x.r,0,0,x.n⟩:=by rw [hstep]; simp [Go.Sep.single,ho]
  exact .inr (alu x.n (by omega) (by rw [ht]; simp) (by rw [ht]; simp [Go.Sep.alu,qBf]) (by rw [hdo,if_pos ho]))
 ·have ht:qS m i=⟨2,x.r,x.a,x.b,0⟩:=by rw [hstep]; simp [Go.Sep.single,ho]
  exact .inr (alu _ (by omega) (by rw [ht]; simp) (by rw [ht]; simp [Go.Sep.alu,qBf,ga,gb]; rfl) (by rw [hdo,if_neg (by omega),if_pos (by omega),ho]; simp [xZ]))
 ·have ht:qS m i=⟨3,x.r,x.a,x.b,0⟩:=by rw [hstep]; simp [Go.Sep.single,ho]
  exact .inr (alu _ (by omega) (by rw [ht]; simp) (by rw [ht]; simp [Go.Sep.alu,qBf,ga,gb]; rfl) (by rw [hdo,if_neg (by omega),if_pos (by omega),ho]; simp [xZ]))
 ·have ht:qS m i=⟨4,x.r,x.a,x.b,0⟩:=by rw [hstep]; simp [Go.Sep.single,ho]
  exact .inr (alu _ (by omega) (by rw [ht]; simp) (by rw [ht]; simp [Go.Sep.alu,qBf,ga,gb]; rfl) (by rw [hdo,if_neg (by omega),if_pos (by omega),ho]; simp [xZ]))
 ·
  have ht:qS m i=⟨9,0,x.a,0,0⟩:=by rw [hstep]; simp [Go.Sep.single,ho]
  have hl:=hlast (by omega) (by omega)
  by_cases hful:(s.tr.length:Int)=4000
  ·left
   intro late
   refine fO ?_
   rw [fC hi,if_pos (.inr ⟨by rw [ht],by rw [htr]; exact hful⟩)]
  right
  have hml :∀late,jD m ⟨i,late⟩=({dQ m i {qJ m i with at_:=(qJ m i).at_+1} with tr:=s.tr++[⟨i,reg (thd s i) x.a⟩]},0):=by
   intro late
   have hmc:eZ m i=0:=by
    rw [fC hi,if_neg (by rw [hst,htr]; simp; intro _; exact hful),ht]
    simp [cA]
   rw [oJ hmc]
   unfold mdo
   simp only
   rw [ht]
   simp only
   rw [if_neg (by decide),if_neg (by decide),if_neg (by decide),if_pos trivial]
   unfold qHt
   rw [if_neg (by rw [ha]; have:=hlt2 (j+1) hl; simp only; omega),ga,htr]
   rfl
  have hd:wN p s i=⟨s.ths.set i ⟨(j:Int)+1,(thd s i).regs,(thd s i).st⟩,s.chs,s.tr++[⟨i,reg (thd s i) x.a⟩]⟩:=by
   rw [hdo,if_neg (by omega),if_neg (by omega),if_pos ho,hgo _ _ _ (by omega)]
  have hs0:wG p (wN p s i)=true:=hcs (fun _=>by
   have:=((jE p s).1 h.src).2.2.2.1
   unfold zV at this
   simp only [wBp,decide_eq_true_eq] at this
   omega)
  rw [hd] at hs0
  refine ⟨_,hml,by rw [hsrc,if_neg (by omega),if_pos (by omega)],?_⟩
  rw [hd]
  exact h.go1 hC hN hi (t':=⟨(j:Int)+1,(thd s i).regs,(thd s i).st⟩) (hml 0) hs0 (.inr ⟨hst,hs,by show (qJ m i).at_+1=frm p i ((j:Int)+1).toNat; rw [show ((j:Int)+1).toNat=j+1 by omega,hfs,ha],hr⟩) hno
 ·
  have hjm:=hjm (.inl ho)
  have ht:qS m i=⟨10,0,0,0,frm p i x.n.toNat⟩:=by rw [hstep,←hsg _ hjm.2]; simp [Go.Sep.single,ho]
  have hml :∀late,jD m ⟨i,late⟩=(dQ m i {qJ m i with at_:=frm p i x.n.toNat},0):=by
   intro late
   rw [@eY m i late hi hst (by rw [ht]; simp) (by rw [ht]; simp) (by rw [ht]; simp) (by rw [ht]; rfl) (by rw [ht]; exact hlt2 _ hjm.2),ht]
   rfl
  have hd:wN p s i=⟨s.ths.set i ⟨x.n,(thd s i).regs,(thd s i).st⟩,s.chs,s.tr⟩:=by
   rw [hdo,if_neg (by omega),if_neg (by omega),if_neg (by omega),if_pos ho,hgo _ _ _ (by omega)]
  have hs0:wG p (wN p s i)=true:=hcs (by omega)
  rw [hd] at hs0
  refine .inr ⟨_,hml,by rw [hsrc,if_neg (by omega),if_pos (by omega)],?_⟩
  rw [hd]
  have:=h.go1 hC hN hi (K':={qJ m i with at_:=frm p i x.n.toNat}) (tr':=s.tr) (t':=⟨x.n,(thd s i).regs,(thd s i).st⟩) (by rw [hml 0,←htr]; rfl) hs0 (.inr ⟨hst,hs,rfl,hr⟩) hno
  rw [←htr] at this⊢
  exact this
 ·
  have hjm:=hjm (.inr ho)
  have hl:=hlast (by omega) (by omega)
  have ht:qS m i=⟨11,0,x.a,0,frm p i x.n.toNat⟩:=by rw [hstep,←hsg _ hjm.2]; simp [Go.Sep.single,ho]
  have hz :∀q:Int,0≤q→q<(body p i).length→(if reg (thd s i) x.a=0 then x.n else (j:Int)+1)=q→gQ (qJ m i) (qS m i)=frm p i q.toNat→
    ∃m',(∀late,jD m ⟨i,late⟩=(m',0))∧wU p s i=0∧Inv p m' (wN p s i):=by
   intro q hq0 hq he hnx
   have hml :∀late,jD m ⟨i,late⟩=(dQ m i {qJ m i with at_:=frm p i q.toNat},0):=by
    intro late
    rw [@eY m i late hi hst (by rw [ht]; simp) (by rw [ht]; simp) (by rw [ht]; simp) (by rw [ht]; rfl) (by rw [hnx]; exact hlt2 _ (by omega)),hnx,ht]
    rfl
   have hd:wN p s i=⟨s.ths.set i ⟨q,(thd s i).regs,(thd s i).st⟩,s.chs,s.tr⟩:=by
    rw [hdo,if_neg (by omega),if_neg (by omega),if_neg (by omega),if_neg (by omega),if_pos ho,he,hgo _ _ _ (by omega)]
   have hs0:wG p (wN p s i)=true:=hcs (by omega)
   rw [hd] at hs0
   refine ⟨_,hml,by rw [hsrc,if_neg (by omega),if_pos (by omega)],?_⟩
   rw [hd]
   have:=h.go1 hC hN hi (K':={qJ m i with at_:=frm p i q.toNat}) (tr':=s.tr) (t':=⟨q,(thd s i).regs,(thd s i).st⟩) (by rw [hml 0,←htr]; rfl) hs0 (.inr ⟨hst,hs,rfl,hr⟩) hno
   rw [←htr] at this⊢
   exact this
  right
  by_cases hz0:reg (thd s i) x.a=0
  ·refine hz x.n hjm.1 (by omega) (by rw [if_pos hz0]) ?_
   rw [ht]
   unfold gQ
   simp only
   rw [if_neg (by decide),if_pos ⟨trivial,by rw [ga]; exact hz0⟩]
  ·refine hz ((j:Int)+1) (by omega) (by omega) (by rw [if_neg hz0]) ?_
   rw [ht]
   unfold gQ
   simp only
   rw [if_neg (by decide),if_neg (by rw [ga]; exact fun e=>hz0 e.2),show ((j:Int)+1).toNat=j+1 by omega,hfs,ha]
 ·
  have ht:qS m i=⟨12,0,0,0,0⟩:=by rw [hstep]; simp [Go.Sep.single,ho]
  have hml :∀late,jD m ⟨i,late⟩=(dQ m i {qJ m i with st:=1},0):=by
   intro late
   rw [oJ (qBy hi hst (by rw [ht]; simp) (by rw [ht]; rfl))]
   unfold mdo stop
   simp only
   rw [if_pos (by rw [ht])]
  have hd:wN p s i=⟨s.ths.set i ⟨j,(thd s i).regs,1⟩,s.chs,s.tr⟩:=by
   rw [hdo,if_neg (by omega),if_neg (by omega),if_neg (by omega),if_neg (by omega),if_neg (by omega),if_pos ho]
  have hs0:wG p (wN p s i)=true:=hcs (by omega)
  rw [hd] at hs0
  refine .inr ⟨_,hml,by rw [hsrc,if_neg (by omega),if_pos (by omega)],?_⟩
  rw [hd]
  have:=h.go1 hC hN hi (K':={qJ m i with st:=1}) (tr':=s.tr) (t':=⟨j,(thd s i).regs,1⟩) (by rw [hml 0,←htr]; rfl) hs0 (.inl ⟨(by decide:(1:Int)≠0),rfl⟩) hno
  rw [←htr] at this⊢
  exact this
theorem Inv.build {p:wQ} {m m':qT} {s s':wA} {own own':Nat→Option Nat} {i n0:Nat} (h:Inv p m s) (hC :∀i,i<m.cores.length→qB6 p m s own i) (hN :∀n,n<p.caps.length→qH8 p m s own n) (hn0:n0<p.caps.length)
  (hm:MOk m') (hcodes:m'.codes=m.codes) (hlen:m'.cores.length=m.cores.length) (hother :∀j,j≠i→qJ m' j=qJ m j) (hsrc:wG p s'=true) (hths :∀j,j≠i→thd s' j=thd s j) (htr:m'.tr=s'.tr)
  (hci:qB6 p m' s' own' i) (hownj :∀j,j≠i→∀n,own' n=some j↔own n=some j) (hcells :∀c,¬(bs p.caps n0≤c∧c<bs p.caps n0+4+cp p.caps n0)→m'.mem.cells.getD c []=m.mem.cells.getD c [])
  (hdata :∀j,j≠i→own n0=some j→(∀c,bs p.caps n0+1≤c→c<bs p.caps n0+4+cp p.caps n0→m'.mem.cells.getD c []=m.mem.cells.getD c [])∧chn s' n0=chn s n0) (hchn :∀n,n≠n0→chn s' n=chn s n) (hown :∀n,n≠n0→own' n=own n)
  (hNI:qH8 p m' s' own' n0):Inv p m' s':=by
 have hdis :∀n,n≠n0→n<p.caps.length→∀c,bs p.caps n≤c→c<bs p.caps n+4+cp p.caps n→m'.mem.cells.getD c []=m.mem.cells.getD c []:=by
  intro n hn hnl c h1 h2
  refine hcells c fun hh=>?_
  rcases Nat.lt_or_gt_of_ne hn with h3 | h3
  ·have:=qGm h.lie h3 hn0
   omega
  ·have:=qGm h.lie h3 hnl
   omega
 refine ⟨hm,by rw [hcodes,h.codes],h.prog,h.lie,hsrc,htr,own',fun j hj=>?_,fun n hn=>?_⟩
 ·by_cases e:j=i
  ·rw [e]; exact hci
  ·refine (hC j (by omega)).frame (hother j e) (hths j e) (hownj j e) (fun n hno=>?_)
   by_cases en:n=n0
   ·subst en
    exact hdata j e hno
   ·have hnl:n<p.caps.length:=by
     have hcj:=hC j (by omega)
     cases hcj with
     | over _ _ ho=>exact absurd hno (ho n)
     | out _ _ _ _ _ _ ho=>exact absurd hno (ho n)
     | inner j' n' N a e fl hj' hx hn' hc hst hk1 hN' hs hd hf hg hh ho =>
      obtain ⟨rfl,_⟩:=ho n hno
      have:=qG1 ((h.fix (by omega:j<m.cores.length)).ins hj') hx.1 hx.2
      omega
    exact ⟨fun c h1 h2=>hdis n en hnl c (by omega) h2,hchn n en⟩
 ·by_cases en:n=n0
  ·rw [en]; exact hNI
  ·refine (hN n hn).frame (hown n en) (fun c h1 h2 _=>hdis n en hn c h1 h2) (fun j e=>?_) (fun _=>hchn n en) hlen
   have:=((hN n hn).held j e).2
   unfold jN at this⊢
   rw [hdis n en hn _ (wBo _) (by omega)]
   exact this
theorem qTx {cs:List (List wZ)} {view:List Int} {c:Nat} (hm:qE0 cs) (hv:VOk cs view) (hc:c<24):load cs view c 0 true=(jN cs c,join (view.set c (((cs.getD c []).length:Int)-1)) ((cs.getD c []).getD ((cs.getD c []).length-1) default).view):=by
 have h1:=(hm.cell c hc).1
 have h2:=hv.2 c hc
 have e:max (((cs.getD c []).length:Int)-1-max 0 0) (view.getD c 0)=((cs.getD c []).length:Int)-1:=by omega
 have e2:(((cs.getD c []).length:Int)-1).toNat=(cs.getD c []).length-1:=by omega
 unfold load jN
 simp only
 rw [e,e2,if_pos trivial]
theorem qWc {cs:List (List wZ)} {c:Nat} (hm:qE0 cs) (hc:c<24):VOk cs ((cs.getD c []).getD ((cs.getD c []).length-1) default).view:=by
 have h1:=(hm.cell c hc).1
 exact hm.view c hc _ (yB _ _ _ (by omega))
theorem qPx {m:qT} {i:Nat} {b:Nat} (hM:MOk m) (hi:i<m.cores.length) (hst:(qJ m i).st=0) (ht:qS m i=⟨8,6,0,7,b⟩) (hb:b<24) (h7:(qJ m i).regs.getD 7 0=1) (hn:(qJ m i).at_+1<((m.codes.getD i []).length:Int)) :
  (∀late,jD m ⟨i,late⟩=(m,3))∨∃vw,vw=(join ((qJ m i).view.set b (((m.mem.cells.getD b []).length:Int)-1)) ((m.mem.cells.getD b []).getD ((m.mem.cells.getD b []).length-1) default).view).set b ((m.mem.cells.getD b []).length:Int)∧
   ∀late,jD m ⟨i,late⟩=(dQ {m with mem:=⟨m.mem.cells.set b (m.mem.cells.getD b []++[⟨1,vw⟩])⟩} i ⟨(qJ m i).at_+1,(qJ m i).regs.set 6 (jN m.mem.cells b),vw,0⟩,0):=by
 have hm:cA (qS m i).op=true:=by rw [ht]; rfl
 have hK:=hM.core i hi
 rcases qBx hi hst hm with h3 | ⟨h0,_⟩
 ·exact .inl fun late=>fO h3
 refine .inr ⟨_,rfl,fun late=>?_⟩
 have hcell:bF (qJ m i) (qS m i)=b:=by
  unfold bF
  rw [ht]
  simp
 rw [pY h0 hm hcell hb hn]
 have hrg:rg (qJ m i) 7=1:=h7
 unfold dM
 rw [ht]
 simp only
 rw [if_neg (by decide),if_pos trivial,qTx hM.mem hK.view hb]
 simp only
 rw [tT,hrg,hst]
 rfl
theorem qQk {cs:List (List wZ)} {b n:Nat} {view:List Int} {x:wZ} (hm:qE0 cs) (hv:VOk cs view) (h24:b+n+4≤24) (hc:iV cs b n ((cs.getD b []).getD ((cs.getD b []).length-1) default).view) :
  iV (cs.set b (cs.getD b []++[x])) b n ((join (view.set b (((cs.getD b []).length:Int)-1)) ((cs.getD b []).getD ((cs.getD b []).length-1) default).view).set b ((cs.getD b []).length:Int)):=by
 intro j hj1 hj2
 have hw:=qWc hm (c:=b) (by omega)
 have hl:=hm.len
 have h1:=hc j hj1 hj2
 have h2:=hv.2 (b+j) (by omega)
 have hjl:(join (view.set b (((cs.getD b []).length:Int)-1)) ((cs.getD b []).getD ((cs.getD b []).length-1) default).view).length=24:=by rw [oU _ _ (by rw [wD6,hv.1,hw.1]),wD6,hv.1]
 rw [uN _ _ _ _ _ (by omega),if_neg (by omega),zY _ (by omega),if_neg (by omega)]
 rw [qLb _ _ _ (by rw [wD6,hv.1]; omega) (by rw [hw.1]; omega),uN _ _ _ _ _ (by rw [hv.1]; omega),if_neg (by omega)]
 omega
def qVk (K:uL) (k:Nat) (d:So) (hold:Bool):So:=⟨k,K.regs.take 4,K.regs.getD 4 0,K.regs.getD 5 0,K.regs.getD 6 0,K.regs.getD 7 0,d.fst,d.cnt,d.cls,d.dat,hold⟩
theorem qVj {K:uL} {f:Int} {k:Nat} {d:So} {hold:Bool} (h8:K.regs.length=8) (ha:K.at_=f+k) (hst:K.st=0):mZ K f (qVk K k d hold):=by
 refine ⟨ha,?_,by simp [qVk,h8],hst⟩
 obtain ⟨a,r,v,st⟩:=K
 simp only at h8
 match r,h8 with
 | [r0,r1,r2,r3,r4,r5,r6,r7],_=>rfl
theorem qYp (f b:Int) (X:List jB):(fP f b++X).getD 0 default=⟨1,7,0,0,1⟩∧(fP f b++X).getD 1 default=⟨8,6,0,7,b⟩∧(fP f b++X).getD 2 default=⟨11,0,6,0,f+4⟩∧(fP f b++X).getD 3 default=⟨10,0,0,0,f+0⟩:=⟨rfl,rfl,rfl,rfl⟩
theorem Inv.walk {p:wQ} {m:qT} {s:wA} {own:Nat→Option Nat} {i:Nat} (h:Inv p m s) (hC :∀i,i<m.cores.length→qB6 p m s own i) (hN :∀n,n<p.caps.length→qH8 p m s own n) (hi:i<m.cores.length) {K':uL}
  (hm:jD m ⟨i,0⟩=(dQ m i K',0)) (hci:qB6 p (dQ m i K') s own i):Inv p (dQ m i K') s:=by
 have hM':MOk (dQ m i K'):=by
  have:=oI ⟨i,0⟩ ((vC m).2 h.mok)
  rw [hm] at this
  exact (vC _).1 this
 refine ⟨hM',h.codes,h.prog,h.lie,h.src,h.tr,own,fun j hj=>?_,fun n hn=>?_⟩
 ·by_cases e:j=i
  ·rw [e]; exact hci
  ·exact (hC j (by simpa [dQ] using hj)).frame (eB m i j K' e) rfl (fun _=>Iff.rfl) (fun n _=>⟨fun _ _ _=>rfl,rfl⟩)
 ·exact (hN n hn).frame rfl (fun _ _ _ _=>rfl) (fun j e=>((hN n hn).held j e).2) (fun _=>rfl) (kW m i K')
theorem nP {l:List Int} {r:Nat} {v:Int} (h:4≤r):(l.set r v).take 4=l.take 4:=by
 rw [List.take_set,List.set_eq_of_length_le (by simp; omega)]
theorem Inv.spin {p:wQ} {m:qT} {s:wA} {own:Nat→Option Nat} {i:Nat}
  (h:Inv p m s) (hC :∀i,i<m.cores.length→qB6 p m s own i) (hN :∀n,n<p.caps.length→qH8 p m s own n) (hi:i<m.cores.length) {k:Nat}
  (hst:(qJ m i).st=0) (hs:(thd s i).st=0) (ha:(qJ m i).at_=frm p i (thd s i).at_.toNat+k) (hr:(qJ m i).regs.take 4=(thd s i).regs) (hno :∀n,own n≠some i) (hx:cO (plc p i (thd s i).at_.toNat))
  (hk:k=0∨k=1∧(qJ m i).regs.getD 7 0=1∨k=2∧(qJ m i).regs.getD 6 0≠0∨k=3) :
  (∀late,jD m ⟨i,late⟩=(m,3))∨∃m',(∀late,jD m ⟨i,late⟩=(m',0))∧
   ((((decide ((qS m i).op=8)&&qW (qS m i).r 0 ((qJ m' i).regs.length-1)&&decide ((qJ m' i).regs.getD (qS m i).r.toNat 0=0))=false)∧Inv p m' s)∨
    (((decide ((qS m i).op=8)&&qW (qS m i).r 0 ((qJ m' i).regs.length-1)&&decide ((qJ m' i).regs.getD (qS m i).r.toNat 0=0))=true)∧(wU p s i=0∨wU p s i=4)∧Inv p m' (qX p s i).1)):=by
 have F:=h.fix hi
 have hxe:plc p i (thd s i).at_.toNat=Go.Sep.ins p s i:=rfl
 obtain ⟨j,hj⟩:=wDp F.at0
 have hjl:=F.at1
 have hK:=h.mok.core i hi
 have hr8:=hK.regs
 have hsz:=eP hx
 have hin:=F.ins hjl
 obtain ⟨n,hn,hnl,hem,hlen⟩:=F.chan h.lie hjl hx
 obtain ⟨c1,c2,c3,c4,c5⟩:=aC h.lie hnl
 have hstep:=fun (q:Nat) (hq:q<4) (e:k=q)=>(F.step h.lie hjl (k:=k) (by omega) ha).1
 rw [hem] at hstep
 have hlk:=qYp (frm p i (thd s i).at_.toNat) (bs p.caps n) (if (plc p i (thd s i).at_.toNat).op=5∨(plc p i (thd s i).at_.toNat).op=7 then qA1 (frm p i (thd s i).at_.toNat) (bs p.caps n) (cp p.caps n) (plc p i (thd s i).at_.toNat) else if (plc p i (thd s i).at_.toNat).op=6∨(plc p i (thd s i).at_.toNat).op=8 then tR (frm p i (thd s i).at_.toNat) (bs p.caps n) (cp p.caps n) (plc p i (thd s i).at_.toNat) else mQ (frm p i (thd s i).at_.toNat) (bs p.caps n))
 have hlt:=F.frm_lt h.lie hjl
 have hf0:=qQe p i (thd s i).at_.toNat
 have hloc:=fun (late:Int)=>@eY m i late hi hst
 rcases hk with rfl | ⟨rfl,h7⟩ | ⟨rfl,h6⟩ | rfl
 ·
  right
  have ht:qS m i=⟨1,7,0,0,1⟩:=by rw [hstep 0 (by omega) rfl]; exact hlk.1
  have hm :∀late,jD m ⟨i,late⟩=(dQ m i ⟨(qJ m i).at_+1,(qJ m i).regs.set 7 1,(qJ m i).view,0⟩,0):=by
   intro late
   rw [hloc late (by rw [ht]; simp) (by rw [ht]; simp) (by rw [ht]; simp) (by rw [ht]; rfl) (by rw [ht]; show (qJ m i).at_+1<_; omega),ht,←hst]
   rfl
  refine ⟨_,hm,.inl ⟨by rw [ht]; simp,?_⟩⟩
  refine h.walk hC hN hi (hm 0) (.out 1 ?_ hs ?_ ?_ (.inr ⟨hx,.inl ⟨rfl,?_⟩⟩) hno)
  ·rw [vL m i _ hi]
  ·rw [vL m i _ hi]
   show (qJ m i).at_+1=_
   omega
  ·rw [vL m i _ hi]
   show ((qJ m i).regs.set 7 1).take 4=_
   rw [nP (by omega),hr]
  ·rw [vL m i _ hi]
   exact (kV (by omega)).trans (if_pos rfl)
 ·
  have ht:qS m i=⟨8,6,0,7,bs p.caps n⟩:=by rw [hstep 1 (by omega) rfl]; exact hlk.2.1
  rcases qPx h.mok hi hst ht (by omega) h7 (by omega) with hfu | ⟨vw,hvw,hm⟩
  ·exact .inl hfu
  right
  refine ⟨_,hm,?_⟩
  have hML:m.mem.cells.length=24:=h.mok.mem.len
  have hself:=vL {m with mem:=⟨m.mem.cells.set (bs p.caps n) (m.mem.cells.getD (bs p.caps n) []++[⟨1,vw⟩])⟩} i ⟨(qJ m i).at_+1,(qJ m i).regs.set 6 (jN m.mem.cells (bs p.caps n)),vw,0⟩ hi
  have hM':MOk (dQ {m with mem:=⟨m.mem.cells.set (bs p.caps n) (m.mem.cells.getD (bs p.caps n) []++[⟨1,vw⟩])⟩} i ⟨(qJ m i).at_+1,(qJ m i).regs.set 6 (jN m.mem.cells (bs p.caps n)),vw,0⟩):=by
   have:=oI ⟨i,0⟩ ((vC m).2 h.mok)
   rw [hm] at this
   exact (vC _).1 this
  generalize hM1:dQ {m with mem:=⟨m.mem.cells.set (bs p.caps n) (m.mem.cells.getD (bs p.caps n) []++[⟨1,vw⟩])⟩} i ⟨(qJ m i).at_+1,(qJ m i).regs.set 6 (jN m.mem.cells (bs p.caps n)),vw,0⟩=m' at *
  have hcel:m'.mem.cells=m.mem.cells.set (bs p.caps n) (m.mem.cells.getD (bs p.caps n) []++[⟨1,vw⟩]):=by rw [←hM1]; rfl
  have hcod:m'.codes=m.codes:=by rw [←hM1]; rfl
  have htr':m'.tr=m.tr:=by rw [←hM1]; rfl
  have hln:m'.cores.length=m.cores.length:=by rw [←hM1]; exact kW _ _ _
  have hoth :∀q,q≠i→qJ m' q=qJ m q:=fun q hq=>by rw [←hM1,eB _ _ _ _ hq]; rfl
  have hbl:bs p.caps n<m.mem.cells.length:=by omega
  have hlw :∀c,jN m'.mem.cells c=if c=bs p.caps n then 1 else jN m.mem.cells c:=fun c=>by rw [hcel,bZ _ hbl]
  have hcg :∀c,c≠bs p.caps n→m'.mem.cells.getD c []=m.mem.cells.getD c []:=fun c hc=>by rw [hcel,zY _ hbl,if_neg hc]
  have hregs:(qJ m' i).regs=(qJ m i).regs.set 6 (jN m.mem.cells (bs p.caps n)):=by rw [hself]
  have hcond:(decide ((qS m i).op=8)&&qW (qS m i).r 0 ((qJ m' i).regs.length-1)&&decide ((qJ m' i).regs.getD (qS m i).r.toNat 0=0))=decide (jN m.mem.cells (bs p.caps n)=0):=by
   rw [ht,hregs]
   simp only [wD6,hr8]
   have hw:qW 6 0 ((8:Nat)-1:Int)=true:=by decide
   rw [hw,show (6:Int).toNat=6 from rfl,kV (by omega),if_pos rfl]
   simp
  rw [hcond]
  cases how:own n with
  | some q =>
   obtain ⟨q1,q2⟩:=(hN n hnl).held q how
   have hqi:q≠i:=fun e=>hno n (by rw [how,e])
   left
   refine ⟨by rw [q2]; decide,?_⟩
   refine h.build hC hN hnl hM' hcod hln hoth h.src (fun _ _=>rfl) (by rw [htr',h.tr]) (.out 2 ?_ hs ?_ ?_ (.inr ⟨hx,.inr (.inl ⟨rfl,?_⟩)⟩) hno) (fun _ _ _=>Iff.rfl) (fun c hc=>hcg c (by omega)) (fun j' hj' _=>⟨fun c e1 e2=>hcg c (by omega),rfl⟩) (fun _ _=>rfl) (fun _ _=>rfl) ?_
   ·rw [hself]
   ·rw [hself]
    show (qJ m i).at_+1=_
    omega
   ·rw [hregs,nP (by omega),hr]
   ·rw [hregs,kV (by omega),if_pos rfl,q2]
    decide
   ·refine (hN n hnl).frame rfl (fun c e1 e2 e3=>by rw [how] at e3; exact absurd e3 (by simp)) (fun _ _=>by rw [hlw,if_pos rfl]) (fun _=>rfl) hln
  | none =>
   obtain ⟨f1,f2,d,f3,f4,f5⟩:=(hN n hnl).free how
   right
   obtain ⟨g1,g2,g3⟩:=qLo h hnl
   obtain ⟨_,_,o4⟩:=F.op hjl
   have hnt:(Go.Sep.ins p s i).n.toNat=n:=by rw [←hxe,hn]; simp
   have hne:(plc p i (thd s i).at_.toNat).op=6∨(plc p i (thd s i).at_.toNat).op=8→(plc p i (thd s i).at_.toNat).r≠(plc p i (thd s i).at_.toNat).b:=fun e=>by
    have hio:=hin
    unfold jJ at hio
    intro er
    rcases e with e | e<;>simp [e,er] at hio
   have hgot:Got (qVk (qJ m' i) 2 d true) (thd s i) (chn s n):=by
    refine ⟨rfl,?_,F.regs,?_,rfl,f5.same rfl rfl rfl rfl,g2⟩
    ·show (qJ m' i).regs.take 4=_
     rw [hregs,nP (by omega),hr]
    ·show (qJ m' i).regs.getD 6 0=0
     rw [hregs,kV (by omega),if_pos rfl,f1]
   obtain ⟨e,fl,hso,hend⟩:=wAo (frm p i (thd s i).at_.toNat) (bs p.caps n) _ _ _ _ hx o4 hne hgot
   rw [g3] at hso
   have hsrc:=nR (p:=p) F.ht hs
   rw [hnt,←hxe,if_neg (by unfold cO at hx; omega)] at hsrc
   have hstep':((wU p s i=4∧(e.k=0∧fl=false))∨(wU p s i=0∧¬(e.k=0∧fl=false))):=by
    by_cases hwt:e.k=0∧fl=false
    ·left
     have hw:=hend.wait.1 hwt
     refine ⟨?_,hwt⟩
     rw [hsrc,if_neg (by rcases hw.2 with ⟨hh,_⟩ | ⟨hh,_⟩<;>omega),if_pos hw]
    ·right
     refine ⟨?_,hwt⟩
     rw [hsrc]
     split
     ·rfl
     ·rw [if_neg (fun hw=>hwt (hend.wait.2 hw))]
   refine ⟨by rw [f1]; decide,hstep'.elim (fun hh=>.inr hh.1) (fun hh=>.inl hh.1),?_⟩
   have hdo:wN p s i=vQ p ⟨s.ths,s.chs.set n (wC (thd s i) (chn s n) (plc p i (thd s i).at_.toNat)).2.1,s.tr⟩ i (wC (thd s i) (chn s n) (plc p i (thd s i).at_.toNat)).1 (wC (thd s i) (chn s n) (plc p i (thd s i).at_.toNat)).2.2 ((thd s i).at_+1):=by
    unfold cO at hx
    unfold wN
    rw [←hxe,if_neg (by omega),if_neg (by omega),if_neg (by omega),if_neg (by omega),if_neg (by omega),if_neg (by omega),hn,wDg]
    rfl
   have hlast:=F.last hjl (by unfold cO at hx; omega) (by unfold cO at hx; omega)
   have hths:=qDc (thd s i) (chn s n) (plc p i (thd s i).at_.toNat)
   have hs' :∃t' c',(qX p s i).1=⟨s.ths.set i t',s.chs.set n c',s.tr⟩∧aI e c'∧(fl=true→t'.st=2)∧(fl=false→t'.st=0∧t'.at_=(if e.k=0 then (thd s i).at_ else (thd s i).at_+1)∧e.low=t'.regs):=by
    rcases hstep' with ⟨q1,q2,q3⟩ | ⟨q1,q2⟩
    ·refine ⟨thd s i,chn s n,?_,hend.ch0 q2 q3,fun e=>by rw [q3] at e; exact absurd e (by decide),fun _=>⟨hs,by rw [if_pos q2],?_⟩⟩
     ·unfold qX
      rw [if_neg (by rw [q1]; decide)]
      unfold thd chn
      rw [jP _ _ _ F.ht,jP _ _ _ g1]
     ·exact (hend.wt q3 (by rw [q2]; omega)).2.1
    ·have hss:(qX p s i).1=wN p s i:=by
      unfold qX
      rw [if_pos q1]
      rfl
     rw [hss,hdo]
     unfold vQ
     cases hfl:fl with
     | true =>
      rw [if_pos (.inl (hend.flt hfl))]
      exact ⟨_,_,rfl,hend.ch1 (.inr hfl),fun _=>rfl,fun e=>absurd e (by decide)⟩
     | false =>
      have hk0:e.k≠0:=fun e0=>q2 ⟨e0,hfl⟩
      have hksz:e.k=(wL (plc p i (thd s i).at_.toNat)).toNat:=by
       apply Classical.byContradiction
       intro hne
       exact hk0 (hend.wt hfl hne).1
      obtain ⟨w1,w2,w3⟩:=hend.nxt hfl hksz
      have hbl2:((p.bods.getD i []).length:Int)=(body p i).length:=rfl
      rw [if_neg (by rw [w2,hbl2]; simp; omega)]
      exact ⟨_,_,rfl,hend.ch1 (.inl hk0),fun e=>absurd e (by decide),fun _=>⟨by rw [hths.2.1]; exact hs,by rw [if_neg hk0],w3⟩⟩
   obtain ⟨t',c',hS,hch,hfl,hgl⟩:=hs'
   have hsrcOk:wG p (qX p s i).1=true:=by
    unfold qX
    split
    ·exact kB h.src F.ht (fun e10=>by have e11:(Go.Sep.ins p s i).op=10:=e10; rw [←hxe] at e11; unfold cO at hx; omega)
    ·exact h.src
   rw [hS] at hsrcOk⊢
   have hthd :∀q,thd ⟨s.ths.set i t',s.chs.set n c',s.tr⟩ q=if q=i then t' else thd s q:=fun q=>pP t' F.ht _ _ q
   have hchn :∀q,chn ⟨s.ths.set i t',s.chs.set n c',s.tr⟩ q=if q=n then c' else chn s q:=fun q=>by
    unfold chn
    exact iN _ _ _ _ _ g1
   have hsz40:aA (frm p i (thd s i).at_.toNat) (bs p.caps n) (vI (frm p i (thd s i).at_.toNat) (bs p.caps n) (cp p.caps n) (plc p i (thd s i).at_.toNat)) ((wL (plc p i (thd s i).at_.toNat)).toNat-2) (qVk (qJ m' i) 2 d true)=some (e,fl):=by
    have:=qBe hso
    have hl2:(vI (frm p i (thd s i).at_.toNat) (bs p.caps n) (cp p.caps n) (plc p i (thd s i).at_.toNat)).length=(wL (plc p i (thd s i).at_.toNat)).toNat:=by omega
    rw [hl2] at this
    exact this
   have hci:qB6 p m' ⟨s.ths.set i t',s.chs.set n c',s.tr⟩ (fun q=>if q=n then some i else own q) i:=by
    refine .inner (thd s i).at_.toNat n _ (qVk (qJ m' i) 2 d true) e fl hjl hx hn (qVj (by rw [hregs,wD6]; exact hr8) ?_ ?_) ?_ (by decide:1≤2) ?_ hsz40 f3 ?_ ?_ ?_ ?_
    ·rw [hself]
     show (qJ m i).at_+1=_
     omega
    ·rw [hself]
    ·show (!true&&_)=false
     rfl
    ·show (wL _).toNat-2+2≤_
     omega
    ·rw [hthd,if_pos rfl]; exact hfl
    ·rw [hthd,if_pos rfl]
     intro e0
     obtain ⟨y1,y2,y3⟩:=hgl e0
     refine ⟨y1,?_,y3⟩
     rw [y2,hj]
     simp
    ·intro _
     refine ⟨by simp,⟨?_,?_,?_,fun q hq=>?_⟩,?_,by rw [hchn,if_pos rfl]; exact hch⟩
     ·rw [hlw,if_neg (by omega)]; exact f4.fst
     ·rw [hlw,if_neg (by omega)]; exact f4.cnt
     ·rw [hlw,if_neg (by omega)]; exact f4.cls
     ·rw [hlw,if_neg (by omega)]; exact f4.dat q hq
     ·rw [hself,hcel,hvw]
      exact qQk h.mok.mem hK.view (by omega) f2
    ·intro n' e'
     by_cases en:n'=n
     ·exact ⟨en,rfl⟩
     ·exact absurd (by simpa [en] using e') (hno n')
   refine h.build hC hN hnl hM' hcod hln hoth hsrcOk (fun q hq=>by rw [hthd,if_neg hq]) (by rw [htr',h.tr]) hci (fun q hq n'=>?_) (fun c hc=>hcg c (by omega)) (fun q hq e=>by rw [how] at e; exact absurd e (by simp)) (fun q hq=>by rw [hchn,if_neg hq]) (fun q hq=>by simp [hq]) ⟨fun e=>by simp at e,fun q e=>?_⟩
   ·by_cases en:n'=n
    ·subst en
     simp [how,Ne.symm hq]
    ·simp [en]
   ·simp only [if_pos,Option.some.injEq] at e
    subst e
    exact ⟨by omega,by rw [hlw,if_pos rfl]⟩
 ·
  right
  have ht:qS m i=⟨11,0,6,0,frm p i (thd s i).at_.toNat+4⟩:=by rw [hstep 2 (by omega) rfl]; exact hlk.2.2.1
  have hnx:gQ (qJ m i) (qS m i)=(qJ m i).at_+1:=by
   rw [ht]
   unfold gQ
   simp only
   rw [if_neg (by decide),if_neg (fun e=>h6 e.2)]
  have hm :∀late,jD m ⟨i,late⟩=(dQ m i ⟨(qJ m i).at_+1,(qJ m i).regs,(qJ m i).view,0⟩,0):=by
   intro late
   rw [hloc late (by rw [ht]; simp) (by rw [ht]; simp) (by rw [ht]; simp) (by rw [ht]; rfl) (by rw [hnx]; omega),hnx,ht,←hst]
   rfl
  refine ⟨_,hm,.inl ⟨by rw [ht]; simp,?_⟩⟩
  refine h.walk hC hN hi (hm 0) (.out 3 ?_ hs ?_ ?_ (.inr ⟨hx,.inr (.inr rfl)⟩) hno)
  ·rw [vL m i _ hi]
  ·rw [vL m i _ hi]
   show (qJ m i).at_+1=_
   omega
  ·rw [vL m i _ hi]
   exact hr
 ·
  right
  have ht:qS m i=⟨10,0,0,0,frm p i (thd s i).at_.toNat+0⟩:=by rw [hstep 3 (by omega) rfl]; exact hlk.2.2.2
  have hm :∀late,jD m ⟨i,late⟩=(dQ m i ⟨frm p i (thd s i).at_.toNat+0,(qJ m i).regs,(qJ m i).view,0⟩,0):=by
   intro late
   rw [hloc late (by rw [ht]; simp) (by rw [ht]; simp) (by rw [ht]; simp) (by rw [ht]; rfl) (by rw [ht]; show frm p i (thd s i).at_.toNat+0<_; omega),ht,←hst]
   rfl
  refine ⟨_,hm,.inl ⟨by rw [ht]; simp,?_⟩⟩
  refine h.walk hC hN hi (hm 0) (.out 0 ?_ hs ?_ ?_ (.inl rfl) hno)
  ·rw [vL m i _ hi]
  ·rw [vL m i _ hi]
   rfl
  ·rw [vL m i _ hi]
   exact hr
theorem Inv.inner {p:wQ} {m:qT} {s:wA} {own:Nat→Option Nat} {i:Nat} (h:Inv p m s) (hC :∀i,i<m.cores.length→qB6 p m s own i) (hN :∀n,n<p.caps.length→qH8 p m s own n) (hi:i<m.cores.length)
  {j n N:Nat} {a e:So} {fl:Bool} (hj:j<(body p i).length) (hx:cO (plc p i j)) (hn:(plc p i j).n=n) (hc:mZ (qJ m i) (frm p i j) a) (hst:a.settled (wL (plc p i j)).toNat=false) (hk1:1≤a.k)
  (hNk:N+a.k≤(wL (plc p i j)).toNat) (hs:aA (frm p i j) (bs p.caps n) (vI (frm p i j) (bs p.caps n) (cp p.caps n) (plc p i j)) N a=some (e,fl)) (hd:a.dat.length=cp p.caps n)
  (hf:fl=true→(thd s i).st=2) (hg:fl=false→(thd s i).st=0∧(thd s i).at_=(if e.k=0 then (j:Int) else j+1)∧e.low=(thd s i).regs)
  (hh:a.hold=true→own n=some i∧qCj m.mem.cells (bs p.caps n) a∧iV m.mem.cells (bs p.caps n) (cp p.caps n) (qJ m i).view∧aI e (chn s n))
  (ho :∀n',own n'=some i→n'=n∧a.hold=true) :
  (∀late,jD m ⟨i,late⟩=(m,3))∨∃m',(∀late,jD m ⟨i,late⟩=(m',0))∧(qS m i).op≠8∧Inv p m' s∧(1≤N):=by
 have F:=h.fix hi
 obtain ⟨n',hn',hnl,hem,hlen⟩:=F.chan h.lie hj hx
 obtain rfl:n'=n:=by omega
 obtain ⟨c1,c2,c3,c4,c5⟩:=aC h.lie hnl
 have hl2:(vI (frm p i j) (bs p.caps n') (cp p.caps n') (plc p i j)).length=(wL (plc p i j)).toNat:=by omega
 rw [←hl2] at hst
 obtain ⟨hk,M,rfl,hcase⟩:=eA hs hst
 have hko:(a.k:Int)<wL (plc p i j):=by omega
 have hstep:=(F.step h.lie hj (k:=a.k) hko hc.at_).1
 rw [hem] at hstep
 rw [←hstep] at hcase
 have hlt:=F.frm_lt h.lie hj
 have hf0:=qQe p i j
 have hj1:j+1<(body p i).length:=F.last hj (by unfold cO at hx; omega) (by unfold cO at hx; omega)
 have hlt2:=F.frm_lt2 h.lie hj1
 rw [qAo hj] at hlt2
 rcases hcase with ⟨a',h1,h2,h3⟩ | ⟨a',h1,h2,h3⟩
 ·
  have hak:a'.k≤(wL (plc p i j)).toNat:=by
   cases hs':a'.settled (vI (frm p i j) (bs p.caps n') (cp p.caps n') (plc p i j)).length
   ·have:=(eA h3 hs').1
    omega
   ·simp only [So.settled,wBp,wC0,decide_eq_true_eq] at hs'
    omega
  have hdl:=qT6 h1
  rcases wAe h.mok hi hc (fun e0=>by obtain ⟨_,y1,y2,_⟩:=hh e0; exact ⟨y1,by rw [hd]; exact y2⟩) (by omega) h1 (by omega) hf0 with hfu | ⟨m',hm,A⟩
  ·exact .inl hfu
  right
  refine ⟨m',hm,(qVi h1).1,?_,by omega⟩
  have hM':MOk m':=by
   have:=oI ⟨i,0⟩ ((vC m).2 h.mok)
   rw [hm] at this
   exact (vC _).1 this
  have A7:=A.held
  have A8:=A.free
  have A9:=A.out
  rw [hd] at A7 A8 A9
  have hown :∃own':Nat→Option Nat,own'=fun q=>if q=n'∧a.hold=true then (if a'.hold=true then some i else none) else own q:=⟨_,rfl⟩
  obtain ⟨own',hown⟩:=hown
  have hone :∀q,own' q=some i→q=n'∧a'.hold=true:=by
   intro q e0
   rw [hown] at e0
   simp only at e0
   split at e0
   ·rename_i hq
    split at e0
    ·rename_i ht
     exact ⟨hq.1,ht⟩
    ·exact absurd e0 (by simp)
   ·rename_i hq
    exact absurd (ho q e0) hq
  have hci:qB6 p m' s own' i:=by
   cases hs':a'.settled (vI (frm p i j) (bs p.caps n') (cp p.caps n') (plc p i j)).length
   ·rw [hl2] at hs'
    refine .inner j n' _ a' e fl hj hx hn A.core hs' ?_ ?_ (qBe h3) (by rw [hdl,hd]) hf hg ?_ hone
    ·rcases h2 with h2 | ⟨h2,h5⟩
     ·omega
     ·exfalso
      simp [So.settled,h2,h5] at hs'
    ·omega
    ·intro hold'
     obtain ⟨z1,z2,z3,z4⟩:=A7 hold'
     refine ⟨?_,z2,z3,(hh z1).2.2.2⟩
     rw [hown]
     simp [z1,hold']
   ·rw [vA hs'] at h3
    simp only [Option.some.injEq,Prod.mk.injEq] at h3
    obtain ⟨rfl,rfl⟩:=h3
    obtain ⟨y1,y2,y3⟩:=hg rfl
    simp only [So.settled,wBp,wC0,decide_eq_true_eq,Bool.not_eq_true'] at hs'
    refine .out 0 A.core.st y1 ?_ ?_ (.inl rfl) (fun q e0=>by have:=(hone q e0).2; rw [hs'.1] at this; exact absurd this (by decide))
    ·rw [A.core.at_,y2]
     rcases hs'.2 with h0 | h0
     ·rw [if_pos h0,h0]
      simp
     ·rw [hl2] at h0
      have:=F.size hj
      rw [if_neg (by omega),show ((j:Int)+1).toNat=j+1 by omega,qAo hj]
      omega
    ·rw [A.core.regs,←y3]
     rw [List.take_append_of_le_length (by rw [A.core.low]; omega),wBy (by rw [A.core.low]; omega)]
  by_cases hhold:a.hold=true
  ·obtain ⟨y1,y2,y3,y4⟩:=hh hhold
   refine h.build hC hN hnl hM' A.codes A.len A.other h.src (fun _ _=>rfl) (by rw [A.tr,h.tr]) hci (fun q hq n2=>?_) (fun c hc'=>A9 c (by omega)) (fun q hq e0=>by rw [y1] at e0; simp only [Option.some.injEq] at e0; exact absurd e0.symm hq) (fun _ _=>rfl) (fun q hq=>by rw [hown]; simp [hq]) ?_
   ·rw [hown]
    simp only
    split
    ·rename_i hq2
     rw [hq2.1,y1]
     split<;>simp [Ne.symm hq]
    ·exact Iff.rfl
   ·cases hh':a'.hold with
    | true =>
     have ow:own' n'=some i:=by rw [hown]; simp [hhold,hh']
     refine ⟨fun e0=>by rw [ow] at e0; exact absurd e0 (by simp),fun q e0=>?_⟩
     rw [ow] at e0
     simp only [Option.some.injEq] at e0
     subst e0
     refine ⟨by rw [A.len]; exact hi,?_⟩
     have:=((hN n' hnl).held i y1).2
     unfold jN at this⊢
     rw [(A7 hh').2.2.2]
     exact this
    | false =>
     have ow:own' n'=none:=by rw [hown]; simp [hhold,hh']
     obtain ⟨x1,x2,x3⟩:=A8 hhold hh'
     obtain ⟨k1,k2,k3,k4,k5⟩:=qIf h3 hh'
     refine ⟨fun _=>⟨x1,x3,a',by rw [hdl,hd],x2,y4.same k4.symm k1.symm k2.symm k3.symm⟩,fun q e0=>by rw [ow] at e0; exact absurd e0 (by simp)⟩
  ·have hhf:a.hold=false:=by simpa using hhold
   have hmem:=A.none hhf
   have howe:own'=own:=by rw [hown]; funext q; simp [hhf]
   rw [howe] at hci
   refine ⟨hM',by rw [A.codes,h.codes],h.prog,h.lie,h.src,by rw [A.tr,h.tr],own,fun q hq=>?_,fun q hq=>?_⟩
   ·by_cases e0:q=i
    ·rw [e0]; exact hci
    ·exact (hC q (by rw [A.len] at hq; exact hq)).frame (A.other q e0) rfl (fun _=>Iff.rfl) (fun _ _=>⟨fun _ _ _=>by rw [hmem],rfl⟩)
   ·refine (hN q hq).frame rfl (fun _ _ _ _=>by rw [hmem]) (fun q' e0=>?_) (fun _=>rfl) A.len
    rw [hmem]
    exact ((hN q hq).held q' e0).2
 ·
  obtain ⟨h13,rfl⟩:=qPi h1
  simp only [Prod.mk.injEq] at h3
  obtain ⟨rfl,rfl⟩:=h3
  right
  have hm:=fun late=>@qNa m i late hi hc.st h13
  refine ⟨_,hm,by omega,?_,by omega⟩
  refine h.walk hC hN hi (hm 0) (.over ?_ ?_ (fun q e0=>by have:=(ho q e0).2; rw [h2] at this; exact absurd this (by decide)))
  ·rw [vL m i _ hi]
   exact (by decide:(2:Int)≠0)
  ·rw [vL m i _ hi]
   exact hf rfl
theorem Inv.step {p:wQ} {m:qT} {s:wA} {i:Nat} (h:Inv p m s) (hi:i<m.cores.length) :
  (∀late,jD m ⟨i,late⟩=(m,3))∨∃m',(∀late,jD m ⟨i,late⟩=(m',0))∧
   ((lJ p (qS m i) (qJ m' i).regs i (qJ m i).at_=false∧Inv p m' s)∨
    (lJ p (qS m i) (qJ m' i).regs i (qJ m i).at_=true∧(wU p s i=0∨wU p s i=4)∧Inv p m' (qX p s i).1)):=by
 obtain ⟨own,hC,hN⟩:=h.own
 have F:=h.fix hi
 cases hC i hi with
 | over hst hs ho =>
  left
  intro late
  refine fO ?_
  rw [fC hi,if_pos (.inl hst)]
 | out k hst hs ha hr hk hno =>
  by_cases hx:cO (plc p i (thd s i).at_.toNat)
  ·have hsz:=eP hx
   have hk':k=0∨k=1∧(qJ m i).regs.getD 7 0=1∨k=2∧(qJ m i).regs.getD 6 0≠0∨k=3:=by
    rcases hk with hk | ⟨_,hk⟩
    ·exact .inl hk
    ·exact .inr hk
   rcases h.spin hC hN hi hst hs ha hr hno hx hk' with hfu | ⟨m',hm,hh⟩
   ·exact .inl hfu
   right
   refine ⟨m',hm,?_⟩
   rw [F.commits h.lie F.at1 (k:=k) (by omega) ha]
   have h1:decide (wL (plc p i (thd s i).at_.toNat)=1)=false:=by simp; omega
   rw [h1,Bool.or_false]
   exact hh
  ·have hk0:k=0:=by
    rcases hk with hk | ⟨hk,_⟩
    ·exact hk
    ·exact absurd hk hx
   subst hk0
   have hone:=F.one h.lie F.at1 hx
   rcases h.single hC hN hi hst hs (by rw [ha]; simp) hr hno hx with hfu | ⟨m',hm,h0,hI⟩
   ·exact .inl hfu
   right
   refine ⟨m',hm,.inr ⟨?_,.inl h0,?_⟩⟩
   ·rw [F.commits h.lie F.at1 (k:=0) (by rw [hone.2]; decide) ha,hone.2]
    simp
   ·unfold qX
    rw [if_pos h0]
    exact hI
 | inner j n N a e fl hj hx hn hc hst hk1 hNk hs hd hf hg hh ho =>
  rcases h.inner hC hN hi hj hx hn hc hst hk1 hNk hs hd hf hg hh ho with hfu | ⟨m',hm,h8,hI,_⟩
  ·exact .inl hfu
  right
  refine ⟨m',hm,.inl ⟨?_,hI⟩⟩
  have hsz:=eP hx
  rw [F.commits h.lie hj (k:=a.k) (by omega) hc.at_]
  have h1:decide (wL (plc p i j)=1)=false:=by simp; omega
  have h2:decide ((qS m i).op=8)=false:=by simpa using h8
  rw [h1,h2]
  rfl
theorem qBw {m:qT} {x:qDz} (h :¬(0≤x.who∧x.who.toNat<m.cores.length)):jD m x=(m,2):=by
 have hc:eZ m x.who=2:=by
  unfold eZ
  have hw:qW x.who 0 ((m.cores.length:Int)-1)=false:=by
   cases hh:qW x.who 0 ((m.cores.length:Int)-1)
   ·rfl
   ·rw [qL] at hh
    exact absurd ⟨hh.1,by omega⟩ h
  rw [hw]
  rfl
 unfold jD
 rw [hc,if_neg (by decide)]
theorem Inv.late {p:wQ} {m:qT} {s:wA} (h:Inv p m s) (x:qDz):jD m x=jD m ⟨x.who,0⟩:=by
 by_cases hw:0≤x.who∧x.who.toNat<m.cores.length
 ·obtain ⟨who,late⟩:=x
  simp only at hw⊢
  obtain ⟨i,rfl⟩:=wDp hw.1
  rcases h.step (i:=i) (by simpa using hw.2) with h1 | ⟨m',h1,_⟩<;>rw [h1 late,h1 0]
 ·rw [qBw hw,qBw (x:=⟨x.who,0⟩) hw]
theorem Inv.pick {p:wQ} {m:qT} {s:wA} (h:Inv p m s) (x:qDz):(did p m x=false∧Inv p (jD m x).1 s)∨(did p m x=true∧(wU p s x.who=0∨wU p s x.who=4)∧Inv p (jD m x).1 (qX p s x.who).1):=by
 by_cases hw:0≤x.who∧x.who.toNat<m.cores.length
 ·obtain ⟨who,late⟩:=x
  simp only at hw⊢
  obtain ⟨i,rfl⟩:=wDp hw.1
  rcases h.step (i:=i) (by simpa using hw.2) with h1 | ⟨m',h1,hh⟩
  ·left
   have hh:=h1 late
   refine ⟨?_,by rw [hh]; exact h⟩
   unfold did
   rw [hh]
   rfl
  ·have hd:did p m ⟨(i:Int),late⟩=lJ p (qS m i) (qJ m' i).regs i (qJ m i).at_:=by
    unfold did
    rw [h1 late]
    simp
   rw [hd,h1 late]
   exact hh
 ·left
  have hh:=qBw hw
  refine ⟨?_,by rw [hh]; exact h⟩
  unfold did
  rw [hh]
  rfl
def tW (p:wQ):wA→List Int→wA
 | s,[]=>s
 | s,x::l=>tW p (qX p s x).1 l
def cI (p:wQ):wA→List Int→List Int
 | _,[]=>[]
 | s,x::l=>(qX p s x).2::cI p (qX p s x).1 l
theorem qKx (p:wQ) :∀(l:List Int) (s:wA) (c:List Int),l.foldl (zK p) (s,c)=(tW p s l,c++cI p s l)
 | [],s,c=>by simp [tW,cI]
 | x::l,s,c=>by
  simp only [List.foldl_cons,zK,tW,cI]
  rw [qKx p l]
  simp
theorem qT2 {p:wQ} {s:wA} {who:Int}:(qX p s who).2=wU p s who:=by
 unfold qX
 split
 ·rename_i h; exact h.symm
 ·rfl
theorem Inv.run {p:wQ} :∀(l:List qDz) {m:qT} {s:wA},Inv p m s→Inv p (qYl m l) (tW p s (qB9 p m l))∧∀c∈cI p s (qB9 p m l),c=0∨c=4
 | [],m,s,h=>⟨h,by simp [qB9,cI]⟩
 | x::l,m,s,h=>by
  rcases h.pick x with ⟨h1,h2⟩ | ⟨h1,h2,h3⟩
  ·simp only [qYl,qB9,h1]
   exact Inv.run l h2
  ·obtain ⟨g1,g2⟩:=Inv.run l h3
   simp only [qYl,qB9,h1,if_true,List.cons_append,List.nil_append,tW,cI]
   refine ⟨g1,fun c hc=>?_⟩
   rcases List.mem_cons.1 hc with rfl | hc
   ·rw [qT2]; exact h2
   ·exact g2 c hc
theorem qUn {cs:List (List wZ)} {b:Nat} {a:So} {c:jZ} (hd:qCj cs b a) (h:aI a c):qOj cs b c.cap a.fst c.list.length=c.list:=by
 apply List.ext_getElem (qLs _ _ _ _ _)
 intro j h1 h2
 have h3:=h.at_ j h2
 have hm:((a.fst+(j:Int))%c.cap).toNat<a.dat.length:=by
  have:=h.cap
  have:=h.cap1
  have:=Int.emod_nonneg (a.fst+(j:Int)) (b:=c.cap) (by omega)
  have:=Int.emod_lt_of_pos (a.fst+(j:Int)) (b:=c.cap) (by omega)
  omega
 simp only [qOj,List.getElem_map,List.getElem_range]
 rw [hd.dat _ hm,←h3]
 simp [wBr,h2]
theorem qQs {cs:List (List wZ)} {b:Nat} {a:So} {c:jZ} (hd:qCj cs b a) (h:aI a c):qQt cs b c.cap=(c,true):=by
 unfold qQt
 have e1:qW a.fst 0 (c.cap-1)=true:=by rw [qL]; have:=h.fst0; have:=h.fst1; omega
 have e2:qW a.cnt 0 c.cap=true:=by rw [qL]; have:=h.cnt; have:=h.len; omega
 have e3:qW a.cls 0 1=true:=by rw [h.cls]; cases c.closed<;>rfl
 rw [hd.fst,hd.cnt,hd.cls,e1,e2,e3,h.cnt,wDg,qUn hd h]
 have e4:decide (a.cls=1)=c.closed:=by rw [h.cls]; cases c.closed<;>rfl
 rw [e4]
 rfl
theorem Inv.chan {p:wQ} {m:qT} {s:wA} (h:Inv p m s) {n:Nat} (hn:n<p.caps.length):qEa m.mem.cells p.caps n=true∨(qEa m.mem.cells p.caps n=false∧qC8 m.mem.cells p.caps n=(chn s n,true)):=by
 obtain ⟨own,hC,hN⟩:=h.own
 obtain ⟨c1,c2,c3,c4,c5⟩:=aC h.lie hn
 have hmo:=(qAb _).2 h.mok.mem
 have hb:base p.caps n=bs p.caps n:=c1
 unfold qEa
 rw [hb,hmo,wDg]
 have d:decide ((0:Int)≤(bs p.caps n:Int))=true:=by simp
 rw [d]
 cases how:own n with
 | some i =>
  left
  rw [((hN n hn).held i how).2]
  rfl
 | none =>
  right
  obtain ⟨f1,f2,a,f3,f4,f5⟩:=(hN n hn).free how
  refine ⟨by rw [f1]; rfl,?_⟩
  unfold qC8
  rw [hb,hmo,wDg]
  have d2:decide ((bs p.caps n:Int)<0)=false:=by simp
  rw [d2]
  have hcap:=(qLo h hn).2.2
  simp only [Bool.not_false,Bool.and_self,if_true,wDg]
  rw [c2,←hcap]
  exact qQs f4 f5
theorem qHw {p:wQ} {m:qT} {s:wA} {i:Nat} (h:Inv p m s) (hi:i<m.cores.length):pD p m s i=true:=by
 obtain ⟨own,hC,hN⟩:=h.own
 have F:=h.fix hi
 have hK:=h.mok.core i hi
 have hw1:qW (i:Int) 0 ((m.cores.length:Int)-1)=true:=by rw [qL]; omega
 have hw2:decide ((i:Int)<(s.ths.length:Int))=true:=by have:=F.ht; simp; omega
 have hpl:iI p i (qJ m i).at_=dS (body p i) 0 0 (qJ m i).at_:=by
  unfold iI
  have hw:qW (i:Int) 0 ((p.bods.length:Int)-1)=true:=by have:=F.hb; rw [qL]; omega
  rw [h.prog,hw]
  rfl
 have hres:pD p m s i=(if (iI p i (qJ m i).at_).1<0∨(qJ m i).regs.length<4∨(thd s i).regs.length<4 then false
  else if (qJ m i).st≠0 then decide ((thd s i).st=(qJ m i).st)
  else if (iI p i (qJ m i).at_).2 then decide ((thd s i).st=0)&&decide ((thd s i).at_=(iI p i (qJ m i).at_).1)&&decide ((qJ m i).regs.take 4=(thd s i).regs.take 4)
  else true):=by
  simp only [pD,hw1,hw2,Bool.and_self,if_true,wDg]
  rfl
 have hat0:=hK.at0
 have hat1:=hK.at1
 rw [F.code] at hat1
 have hcomp:=qZ6 F.bok h.lie hat0 hat1
 have hp0 :¬((iI p i (qJ m i).at_).1<0∨(qJ m i).regs.length<4∨(thd s i).regs.length<4):=by
  rw [hpl]
  have:=hcomp.1
  have:=hK.regs
  have:=F.regs
  omega
 rw [hres,if_neg hp0]
 cases hC i hi with
 | over hst hs ho=>rw [if_pos hst,hs]; simp
 | out k hst hs ha hr hk hno =>
  rw [if_neg (by simp [hst])]
  have hkz:(k:Int)<wL (plc p i (thd s i).at_.toNat):=by
   rcases hk with rfl | ⟨hx,hk⟩
   ·have:=F.size F.at1; omega
   ·have:=eP hx; omega
  have:=(F.step h.lie F.at1 hkz ha).2
  rw [hpl,this]
  by_cases hk0:k=0
  ·have hrl:(thd s i).regs.take 4=(thd s i).regs:=wBy (by rw [F.regs]; exact wBo _)
   have:=F.at0
   simp only [hk0,decide_true,if_true]
   rw [hs,hr,hrl,Int.toNat_of_nonneg F.at0]
   simp
  ·simp [hk0]
 | inner j n N a e fl hj hx hn hc hst hak hNk hs hd hf hg hh ho =>
  rw [if_neg (by simp [hc.st])]
  obtain ⟨n',hn',hnl,hem,hlen⟩:=F.chan h.lie hj hx
  have hkl:(a.k:Int)<wL (plc p i j):=by
   obtain rfl:n'=n:=by omega
   have hl2:(vI (frm p i j) (bs p.caps n') (cp p.caps n') (plc p i j)).length=(wL (plc p i j)).toNat:=by omega
   rw [←hl2] at hst
   have:=(eA hs hst).1
   omega
  have:=(F.step h.lie hj hkl hc.at_).2
  rw [hpl,this]
  simp [show¬a.k=0 by omega]
theorem Inv.same {p:wQ} {m:qT} {s:wA} (h:Inv p m s):same p m s=true:=by
 have hs:=(jE p s).1 h.src
 have hl:m.codes.length=p.bods.length:=by rw [h.codes,wDq]
 have hc:=h.mok.cores
 unfold Go.Sep.same
 rw [h.prog,(vC m).2 h.mok,h.src,decide_eq_true (show m.cores.length=s.ths.length by omega),decide_eq_true h.tr]
 have h1:(List.range m.cores.length).all (fun i=>pD p m s i)=true:=by
  rw [pU]
  exact fun i hi=>qHw h hi
 have h2:(List.range p.caps.length).all (fun n=>qGg p m s n)=true:=by
  rw [pU]
  intro n hn
  obtain ⟨g1,g2,g3⟩:=qLo h hn
  unfold qGg
  have hw:qW (n:Int) 0 ((p.caps.length:Int)-1)=true:=by rw [qL]; omega
  rw [hw,decide_eq_true (show (n:Int)<s.chs.length by omega)]
  rcases h.chan hn with hk | ⟨hk,hc⟩
  ·rw [hk]; rfl
  ·rw [hk,hc,wDg]
   show (false||(true&&decide ((chn s n).cap=(chn s n).cap)&&decide ((chn s n).list=(chn s n).list)&&decide ((chn s n).closed=(chn s n).closed)))=true
   simp
 rw [h1,h2]
 rfl
end Go.Sep
