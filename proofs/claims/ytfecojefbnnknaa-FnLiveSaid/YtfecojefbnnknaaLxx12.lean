/- Contracts of functions. -/
import Derived.Test.YtfecojefbnnknaaLxx11
open Bool renaming and_eq_true → qZu, or_eq_true → wA5
open Int renaming eq_ofNat_of_zero_le → wBw, toNat_natCast → wBl
open List renaming getD_eq_getElem?_getD → qZw, getElem?_append_left → wA9, getElem?_append_right → qZk, length_append → wAa, length_map → wBx, length_set → wBb, replicate → qZo, take_length → wBv, take_of_length_le → wA3, take_succ_cons → wBs
open Nat renaming le_refl → qZt
namespace Go.Sep
set_option maxHeartbeats 16000000
open Go.Proofs
set_option linter.unusedSimpArgs false
set_option linter.unusedVariables false
set_option maxRecDepth 100000
structure So where
 k:Nat
 low:List Int
 t4:Int
 t5:Int
 t6:Int
 t7:Int
 fst:Int
 cnt:Int
 cls:Int
 dat:List Int
 hold:Bool
def So.get (s:So) (r:Int):Int:=if r<4 then s.low.getD r.toNat 0 else if r=4 then s.t4 else if r=5 then s.t5 else if r=6 then s.t6 else s.t7
def So.put (s:So) (r v:Int):So:=if r<4 then {s with low:=s.low.set r.toNat v} else if r=4 then {s with t4:=v} else if r=5 then {s with t5:=v} else if r=6 then {s with t6:=v} else {s with t7:=v}
def So.to (s:So) (k:Nat):So:={s with k:=k}
inductive jC where
 | go (s:So)
 | stop (s:So)
 | bad
def gL (b:Int) (t:yV) (s:So):jC :=
 if t.a=-1 then
  if t.n=b+1 then .go ((s.put t.r s.fst).to (s.k+1)) else if t.n=b+2 then .go ((s.put t.r s.cnt).to (s.k+1)) else if t.n=b+3 then .go ((s.put t.r s.cls).to (s.k+1)) else .bad
 else if t.n=b+4∧0≤t.a∧0≤s.get t.a∧(s.get t.a).toNat<s.dat.length then .go ((s.put t.r (s.dat.getD (s.get t.a).toNat 0)).to (s.k+1)) else .bad
def gK (b:Int) (t:yV) (s:So):jC :=
 if t.a=-1 then
  if t.n=b+1 then .go ({s with fst:=s.get t.b}.to (s.k+1)) else if t.n=b+2 then .go ({s with cnt:=s.get t.b}.to (s.k+1)) else if t.n=b+3 then .go ({s with cls:=s.get t.b}.to (s.k+1)) else .bad
 else if t.n=b+4∧0≤t.a∧0≤s.get t.a∧(s.get t.a).toNat<s.dat.length then .go ({s with dat:=s.dat.set (s.get t.a).toNat (s.get t.b)}.to (s.k+1)) else .bad
def uK (b:Int) (t:yV) (s:So):jC:=if t.a=-1∧t.n=b∧s.get t.b=0 then .go ({s with hold:=false}.to (s.k+1)) else .bad
def vN (b:Int) (t:yV) (s:So):jC:=if t.op=5 then gL b t s else if t.op=6 then gK b t s else if t.op=7 then uK b t s else .bad
def jU (f b:Int) (t:yV) (s:So):jC :=
 if t.op=1 then .go ((s.put t.r t.n).to (s.k+1))
 else if t.op=2 then .go ((s.put t.r (IntKind.i64.wrap (s.get t.a+s.get t.b))).to (s.k+1))
 else if t.op=3 then .go ((s.put t.r (IntKind.i64.wrap (s.get t.a-s.get t.b))).to (s.k+1))
 else if t.op=4 then .go ((s.put t.r (uN (decide (s.get t.a<s.get t.b)))).to (s.k+1))
 else if t.op=10 then (if f≤t.n then .go (s.to (t.n-f).toNat) else .bad)
 else if t.op=11 then (if f≤t.n then .go (s.to (if s.get t.a=0 then (t.n-f).toNat else s.k+1)) else .bad)
 else if t.op=13 then .stop s
 else if s.hold=false then .bad
 else vN b t s
theorem kL {b:Int} {t:yV} {s s':So}:vN b t s≠.stop s':=by
 unfold vN gL gK uK
 intro h
 repeat' split at h
 all_goals cases h
def So.settled (sz:Nat) (s:So):Bool:=!s.hold&&(decide (s.k=0)||decide (s.k=sz))
def xK (f b:Int) (L:List yV):Nat→So→Option (So×Bool)
 | 0,s=>if s.settled L.length then some (s,false) else none
 | n+1,s =>
  if s.settled L.length then some (s,false)
  else if s.k<L.length then
   match jU f b (L.getD s.k default) s with
   | .go s'=>if s.k<s'.k∨(s'.k=0∧s'.hold=false) then xK f b L n s' else none
   | .stop s'=>if s'.hold=false then some (s',true) else none
   | .bad=>none
  else none
theorem jT {f b:Int} {L:List yV} {n:Nat} {s:So} (h:s.settled L.length=true):xK f b L n s=some (s,false):=by
 cases n<;>simp [xK,h]
theorem qJ5 {f b:Int} {L:List yV} {n:Nat} {s s':So} {r:Option (So×Bool)} (h1:s.settled L.length=false) (h2:s.k<L.length) (h3:jU f b (L.getD s.k default) s=.go s') (h4:s.k<s'.k∨(s'.k=0∧s'.hold=false)) (h5:xK f b L n s'=r):xK f b L (n+1) s=r:=by
 unfold xK
 rw [h1,if_neg (by decide),if_pos h2,h3]
 simp only
 rw [if_pos h4]
 exact h5
theorem qA6 {f b:Int} {L:List yV} {n:Nat} {s s':So} (h1:s.settled L.length=false) (h2:s.k<L.length) (h3:jU f b (L.getD s.k default) s=.stop s') (h4:s'.hold=false):xK f b L (n+1) s=some (s',true):=by
 unfold xK
 rw [h1,if_neg (by decide),if_pos h2,h3]
 simp only
 rw [if_pos h4]
theorem aQ {f b:Int} {L:List yV} {n:Nat} {s:So} {r:So×Bool} (h:xK f b L n s=some r) (hs:s.settled L.length=false) :
  s.k<L.length∧∃m,n=m+1∧((∃s',jU f b (L.getD s.k default) s=.go s'∧(s.k<s'.k∨(s'.k=0∧s'.hold=false))∧xK f b L m s'=some r)∨(∃s',jU f b (L.getD s.k default) s=.stop s'∧s'.hold=false∧r=(s',true))):=by
 cases n with
 | zero=>simp [xK,hs] at h
 | succ m =>
  unfold xK at h
  rw [hs,if_neg (by decide)] at h
  split at h
  ·rename_i hk
   refine ⟨hk,m,rfl,?_⟩
   cases h1:jU f b (L.getD s.k default) s with
   | go s' =>
    rw [h1] at h
    simp only at h
    split at h
    ·rename_i h4
     exact .inl ⟨s',rfl,h4,h⟩
    ·exact absurd h (by simp)
   | stop s' =>
    rw [h1] at h
    simp only at h
    split at h
    ·rename_i h4
     exact .inr ⟨s',rfl,h4,by simpa using h.symm⟩
    ·exact absurd h (by simp)
   | bad =>
    rw [h1] at h
    exact absurd h (by simp)
  ·exact absurd h (by simp)
structure xW (s:So) (c:jS):Prop where
 cap:(s.dat.length:Int)=c.cap
 cap1:1≤c.cap
 cap4:c.cap≤4
 len:(c.list.length:Int)≤c.cap
 fst0:0≤s.fst
 fst1:s.fst<c.cap
 cnt:s.cnt=c.list.length
 cls:s.cls=uN c.closed
 at_ :∀j:Nat,j<c.list.length→c.list.getD j 0=s.dat.getD ((s.fst+j)%c.cap).toNat 0
def vD (f b c:Int) (x:Ins):List yV:=cW f b++(if x.op=5∨x.op=7 then sD f b c x else if x.op=6∨x.op=8 then rU f b c x else lI f b)
structure qIl (sz:Nat) (th:yJ) (ch:jS) (x:Ins) (s:So) (fl:Bool):Prop where
 flt:fl=true→(qX th ch x).2.2=false
 nxt:fl=false→s.k=sz→s.k≠0∧(qX th ch x).2.2=true∧s.low=(qX th ch x).1.regs
 wt:fl=false→s.k≠sz→s.k=0∧s.low=th.regs∧(x.op=5∨x.op=6)
 ch0:s.k=0→fl=false→xW s ch
 ch1:(s.k≠0∨fl=true)→xW s (qX th ch x).2.1
 wait:(s.k=0∧fl=false)↔(ch.closed=false∧((x.op=5∧(ch.list.length:Int)=ch.cap)∨(x.op=6∧(ch.list.length:Int)=0)))
 free:s.hold=false
theorem xW.same {s s':So} {c:jS} (h:xW s c) (h1:s'.dat=s.dat) (h2:s'.fst=s.fst) (h3:s'.cnt=s.cnt) (h4:s'.cls=s.cls):xW s' c:=by
 obtain ⟨a1,a2,a3,a4,a5,a6,a7,a8,a9⟩:=h
 exact ⟨by rw [h1]; exact a1,a2,a3,a4,by rw [h2]; exact a5,by rw [h2]; exact a6,by rw [h3]; exact a7,by rw [h4]; exact a8,by rw [h1,h2]; exact a9⟩
theorem iP {l:List Int} {i j:Nat} {v:Int} (hi:i<l.length):(l.set i v).getD j 0=if j=i then v else l.getD j 0:=by
 by_cases h:j=i
 ·subst h; simp [qZw,hi]
 ·rw [if_neg h]; simp [qZw,List.getElem?_set,show¬i=j from fun e=>h e.symm]
theorem qB7 {c:Int} (h1:1≤c) (h4:c≤4):c=1∨c=2∨c=3∨c=4:=by omega
theorem qWg {c f n j i:Int} (h1:1≤c) (h4:c≤4) (f0:0≤f) (f1:f<c) (n1:n<c) (j0:0≤j) (j1:j<n) (hi:i=if f+n<c then f+n else f+n-c):(f+j)%c≠i:=by
 rcases qB7 h1 h4 with rfl | rfl | rfl | rfl<;>split at hi<;>omega
theorem qWi {c f n i:Int} (h1:1≤c) (h4:c≤4) (f0:0≤f) (f1:f<c) (n0:0≤n) (n1:n<c) (hi:i=if f+n<c then f+n else f+n-c):(f+n)%c=i:=by
 rcases qB7 h1 h4 with rfl | rfl | rfl | rfl<;>split at hi<;>omega
theorem qRa {c f j:Int} (h1:1≤c) (h4:c≤4) (f0:0≤f) (f1:f<c) (j0:0≤j):(f+(j+1))%c=((if f+1<c then f+1 else 0)+j)%c:=by
 rcases qB7 h1 h4 with rfl | rfl | rfl | rfl<;>split<;>omega
theorem qWh {c f j:Int} (h1:1≤c):0≤(f+j)%c∧(f+j)%c<c:=⟨Int.emod_nonneg _ (by omega),Int.emod_lt_of_pos _ (by omega)⟩
theorem xW.send {s s':So} {c:jS} {v:Int} {i:Nat} (h:xW s c) (hl :¬(c.list.length:Int)=c.cap) (hi:(i:Int)=(if s.fst+s.cnt<c.cap then s.fst+s.cnt else s.fst+s.cnt-c.cap))
  (h1:s'.dat=s.dat.set i v) (h2:s'.fst=s.fst) (h3:s'.cnt=s.cnt+1) (h4:s'.cls=s.cls):xW s' {c with list:=c.list++[v]}:=by
 obtain ⟨a1,a2,a3,a4,a5,a6,a7,a8,a9⟩:=h
 have hil:i<s.dat.length:=by split at hi<;>omega
 refine ⟨by rw [h1,wBb]; exact a1,a2,a3,by simp; omega,by rw [h2]; exact a5,by rw [h2]; exact a6,by rw [h3,a7]; simp,by rw [h4]; exact a8,?_⟩
 intro j hj
 simp only [wAa,List.length_cons,List.length_nil] at hj
 rw [h1,h2,iP hil]
 by_cases hjl:j<c.list.length
 ·have h5:(c.list++[v]).getD j 0=c.list.getD j 0:=by simp [qZw,wA9 hjl]
  rw [h5,a9 j hjl,if_neg]
  intro e
  simp only at e
  have:=qWg a2 a3 a5 a6 (n:=s.cnt) (j:=j) (by omega) (by omega) (by omega) hi
  have:=qWh (f:=s.fst) (j:=j) a2
  omega
 ·have hj':j=c.list.length:=by omega
  have h5:(c.list++[v]).getD j 0=v:=by rw [hj']; simp [qZw]
  rw [h5,if_pos]
  simp only
  have:=qWi a2 a3 a5 a6 (n:=s.cnt) (by omega) (by omega) hi
  rw [hj',←a7,this]
  simp
theorem xW.take {s s':So} {c:jS} (h:xW s c) (hl:0<c.list.length)
  (h1:s'.dat=s.dat) (h2:s'.fst=if s.fst+1<c.cap then s.fst+1 else 0) (h3:s'.cnt=s.cnt-1) (h4:s'.cls=s.cls):xW s' {c with list:=c.list.drop 1}:=by
 obtain ⟨a1,a2,a3,a4,a5,a6,a7,a8,a9⟩:=h
 refine ⟨by rw [h1]; exact a1,a2,a3,by simp; omega,by rw [h2]; split<;>omega,by rw [h2]; simp only; split<;>omega,by rw [h3,a7]; simp; omega,by rw [h4]; exact a8,?_⟩
 intro j hj
 simp only [List.length_drop] at hj
 have h5:(c.list.drop 1).getD j 0=c.list.getD (j+1) 0:=by simp [qZw,Nat.add_comm]
 simp only
 rw [h5,a9 (j+1) (by omega),h1,h2]
 congr 2
 have:=qRa a2 a3 a5 a6 (j:=j) (by omega)
 push_cast
 exact this
theorem xW.first {s:So} {c:jS} (h:xW s c) (hl:0<c.list.length):c.list.getD 0 0=s.dat.getD s.fst.toNat 0:=by
 have h0:=h.at_ 0 hl
 have h1:=h.fst0
 have h2:=h.fst1
 rw [h0]
 congr 1
 have:(s.fst+((0:Nat):Int))%c.cap=s.fst:=by rw [Int.natCast_zero,Int.add_zero]; exact Int.emod_eq_of_lt h1 h2
 rw [this]
structure Got (s:So) (th:yJ) (ch:jS):Prop where
 k:s.k=2
 low:s.low=th.regs
 len:th.regs.length=4
 t6:s.t6=0
 hold:s.hold=true
 rep:xW s ch
 ok:jM ch=true
structure Op4 (x:Ins):Prop where
 r0:0≤x.r
 r1:x.r<4
 a0:0≤x.a
 a1:x.a<4
 b0:0≤x.b
 b1:x.b<4
def jC.nx:jC→So→So
 | .go s',_=>s'
 | _,s=>s
def jC.good:jC→So→Bool
 | .go s',s=>decide (s.k<s'.k)||(decide (s'.k=0)&&!s'.hold)
 | _,_=>false
def jC.ends:jC→Bool
 | .stop _=>true
 | _=>false
theorem gH {f b:Int} {L:List yV} {n:Nat} {s:So} (h1:s.settled L.length=false) (h2:s.k<L.length) (h3:(jU f b (L.getD s.k default) s).good s=true):xK f b L (n+1) s=xK f b L n ((jU f b (L.getD s.k default) s).nx s):=by
 cases h:jU f b (L.getD s.k default) s with
 | go s' =>
  rw [h] at h3
  simp only [jC.good,wA5,qZu,decide_eq_true_eq,Bool.not_eq_true'] at h3
  exact qJ5 h1 h2 h h3 rfl
 | stop s'=>rw [h] at h3; exact absurd h3 (by simp [jC.good])
 | bad=>rw [h] at h3; exact absurd h3 (by simp [jC.good])
theorem gG {f b:Int} {L:List yV} {n:Nat} {s:So} (h1:s.settled L.length=false) (h2:s.k<L.length) (h3:(jU f b (L.getD s.k default) s).ends=true) (h4:s.hold=false):xK f b L (n+1) s=some (s,true):=by
 cases h:jU f b (L.getD s.k default) s with
 | go s'=>rw [h] at h3; exact absurd h3 (by simp [jC.ends])
 | stop s' =>
  have hs:s'=s:=by
   unfold jU at h
   repeat' split at h
   all_goals (first | exact absurd h kL | (cases h; done) | (cases h; rfl))
  rw [hs] at h
  exact qA6 h1 h2 h h4
 | bad=>rw [h] at h3; exact absurd h3 (by simp [jC.ends])
theorem fle (f:Int) {n:Int} (h:0≤n):(f≤f+n)=True:=eq_true (by omega)
theorem lV (f n:Int):f+n-f=n:=by omega
theorem qNe {f b:Int} {x:Ins} {s:So} {th:yJ} {ch:jS} (hx:x.op=9) (ho:Op4 x) (h:Got s th ch) :∃s' fl,xK f b (vD f b ch.cap x) 40 s=some (s',fl)∧qIl 13 th ch x s' fl:=by
 obtain ⟨h1,h2,h3,h4,h5,h6,h7⟩:=h
 obtain ⟨r0,r1,a0,a1,b0,b1⟩:=ho
 obtain ⟨k,low,t4,t5,t6,t7,fst,cnt,cls,dat,hold⟩:=s
 simp only at h1 h2 h4 h5
 subst h1 h2 h4 h5
 obtain ⟨c,lst,cl⟩:=ch
 have H:=h6
 obtain ⟨e1,e2,e3,e4,e5,e6,e7,e8,e9⟩:=h6
 simp only at e1 e2 e3 e4 e5 e6 e7 e8 e9
 have hL:vD f b c x=[⟨1,7,0,0,1⟩,⟨8,6,0,7,b⟩,⟨11,0,6,0,f+4⟩,⟨10,0,0,0,f⟩,⟨5,4,-1,0,b+3⟩,⟨11,0,4,0,f+9⟩,⟨1,7,0,0,0⟩,⟨7,0,-1,7,b⟩,⟨13,0,0,0,0⟩,⟨1,7,0,0,1⟩,⟨6,0,-1,7,b+3⟩,⟨1,7,0,0,0⟩,⟨7,0,-1,7,b⟩]:=by simp [vD,cW,sD,rU,lI,mD,oZ,uN,hx]
 generalize vD f b c x=L at hL⊢
 have hlen:L.length=13:=by rw [hL]; rfl
 have g2:L.getD 2 default=⟨11,0,6,0,f+4⟩:=by rw [hL]; rfl
 have g3:L.getD 3 default=⟨10,0,0,0,f⟩:=by rw [hL]; rfl
 have g4:L.getD 4 default=⟨5,4,-1,0,b+3⟩:=by rw [hL]; rfl
 have g5:L.getD 5 default=⟨11,0,4,0,f+9⟩:=by rw [hL]; rfl
 have g6:L.getD 6 default=⟨1,7,0,0,0⟩:=by rw [hL]; rfl
 have g7:L.getD 7 default=⟨7,0,-1,7,b⟩:=by rw [hL]; rfl
 have g8:L.getD 8 default=⟨13,0,0,0,0⟩:=by rw [hL]; rfl
 have g9:L.getD 9 default=⟨1,7,0,0,1⟩:=by rw [hL]; rfl
 have g10:L.getD 10 default=⟨6,0,-1,7,b+3⟩:=by rw [hL]; rfl
 have g11:L.getD 11 default=⟨1,7,0,0,0⟩:=by rw [hL]; rfl
 have g12:L.getD 12 default=⟨7,0,-1,7,b⟩:=by rw [hL]; rfl
 clear hL
 have hst:qX th ⟨c,lst,cl⟩ x=(th,(vK ⟨c,lst,cl⟩).1,!decide ((vK ⟨c,lst,cl⟩).2=2)):=by unfold qX; rw [if_neg (by omega),if_neg (by omega)]
 cases cl
 ·have e8':cls=0:=e8
  subst e8'
  have hc:vK ⟨c,lst,false⟩=(⟨c,lst,true⟩,0):=by unfold vK; rw [h7]; rfl
  rw [hc] at hst
  simp [gH,gG,jT,jC.nx,jC.good,jC.ends,jU,vN,gL,gK,uK,So.settled,So.get,So.put,So.to,fle,lV,uN,hlen,-qZw,g2,g3,g4,g5,g6,g7,g8,g9,g10,g11,g12]
  exact ⟨fun e=>absurd e (by simp),fun _ _=>⟨by simp,by rw [hst]; rfl,by rw [hst]⟩,fun _ e=>absurd rfl e,fun e=>absurd e (by simp),fun _=>by rw [hst]; exact ⟨e1,e2,e3,e4,e5,e6,e7,rfl,e9⟩,⟨fun e=>absurd e.1 (by simp),fun e=>by omega⟩,rfl⟩
 ·have e8':cls=1:=e8
  subst e8'
  have hc:vK ⟨c,lst,true⟩=(⟨c,lst,true⟩,2):=by unfold vK; rfl
  rw [hc] at hst
  simp [gH,gG,jT,jC.nx,jC.good,jC.ends,jU,vN,gL,gK,uK,So.settled,So.get,So.put,So.to,fle,lV,uN,hlen,-qZw,g2,g3,g4,g5,g6,g7,g8,g9,g10,g11,g12]
  exact ⟨fun _=>by rw [hst]; rfl,fun e=>absurd e (by simp),fun e=>absurd e (by simp),fun e=>absurd e (by simp),fun _=>by rw [hst]; exact H.same rfl rfl rfl rfl,⟨fun e=>absurd e.1 (by simp),fun e=>by omega⟩,rfl⟩
theorem qR2 {f b:Int} {x:Ins} {s:So} {th:yJ} {ch:jS} (hx:x.op=5) (ho:Op4 x) (h:Got s th ch) :∃s' fl,xK f b (vD f b ch.cap x) 40 s=some (s',fl)∧qIl 29 th ch x s' fl:=by
 obtain ⟨h1,h2,h3,h4,h5,h6,h7⟩:=h
 obtain ⟨r0,r1,a0,a1,b0,b1⟩:=ho
 obtain ⟨k,low,t4,t5,t6,t7,fst,cnt,cls,dat,hold⟩:=s
 simp only at h1 h2 h4 h5
 subst h1 h2 h4 h5
 obtain ⟨c,lst,cl⟩:=ch
 have H:=h6
 obtain ⟨e1,e2,e3,e4,e5,e6,e7,e8,e9⟩:=h6
 simp only at e1 e2 e3 e4 e5 e6 e7 e8 e9
 have hL:vD f b c x=[⟨1,7,0,0,1⟩,⟨8,6,0,7,b⟩,⟨11,0,6,0,f+4⟩,⟨10,0,0,0,f⟩,⟨5,4,-1,0,b+3⟩,⟨11,0,4,0,f+9⟩,⟨1,7,0,0,0⟩,⟨7,0,-1,7,b⟩,⟨13,0,0,0,0⟩,⟨5,5,-1,0,b+2⟩,⟨1,7,0,0,c⟩,⟨4,6,5,7,0⟩,⟨11,0,6,0,f+26⟩,⟨5,4,-1,0,b+1⟩,⟨2,4,4,5,0⟩,⟨4,6,4,7,0⟩,⟨11,0,6,0,f+18⟩,⟨10,0,0,0,f+19⟩,⟨3,4,4,7,0⟩,⟨6,0,4,x.a,b+4⟩,⟨1,7,0,0,1⟩,⟨2,5,5,7,0⟩,⟨6,0,-1,5,b+2⟩,⟨1,7,0,0,0⟩,⟨7,0,-1,7,b⟩,⟨10,0,0,0,f+29⟩,⟨1,7,0,0,0⟩,⟨7,0,-1,7,b⟩,⟨10,0,0,0,f⟩]:=by simp [vD,cW,sD,rU,lI,mD,oZ,uN,hx]
 generalize vD f b c x=L at hL⊢
 have hlen:L.length=29:=by rw [hL]; rfl
 have g2:L.getD 2 default=⟨11,0,6,0,f+4⟩:=by rw [hL]; rfl
 have g3:L.getD 3 default=⟨10,0,0,0,f⟩:=by rw [hL]; rfl
 have g4:L.getD 4 default=⟨5,4,-1,0,b+3⟩:=by rw [hL]; rfl
 have g5:L.getD 5 default=⟨11,0,4,0,f+9⟩:=by rw [hL]; rfl
 have g6:L.getD 6 default=⟨1,7,0,0,0⟩:=by rw [hL]; rfl
 have g7:L.getD 7 default=⟨7,0,-1,7,b⟩:=by rw [hL]; rfl
 have g8:L.getD 8 default=⟨13,0,0,0,0⟩:=by rw [hL]; rfl
 have g9:L.getD 9 default=⟨5,5,-1,0,b+2⟩:=by rw [hL]; rfl
 have g10:L.getD 10 default=⟨1,7,0,0,c⟩:=by rw [hL]; rfl
 have g11:L.getD 11 default=⟨4,6,5,7,0⟩:=by rw [hL]; rfl
 have g12:L.getD 12 default=⟨11,0,6,0,f+26⟩:=by rw [hL]; rfl
 have g13:L.getD 13 default=⟨5,4,-1,0,b+1⟩:=by rw [hL]; rfl
 have g14:L.getD 14 default=⟨2,4,4,5,0⟩:=by rw [hL]; rfl
 have g15:L.getD 15 default=⟨4,6,4,7,0⟩:=by rw [hL]; rfl
 have g16:L.getD 16 default=⟨11,0,6,0,f+18⟩:=by rw [hL]; rfl
 have g17:L.getD 17 default=⟨10,0,0,0,f+19⟩:=by rw [hL]; rfl
 have g18:L.getD 18 default=⟨3,4,4,7,0⟩:=by rw [hL]; rfl
 have g19:L.getD 19 default=⟨6,0,4,x.a,b+4⟩:=by rw [hL]; rfl
 have g20:L.getD 20 default=⟨1,7,0,0,1⟩:=by rw [hL]; rfl
 have g21:L.getD 21 default=⟨2,5,5,7,0⟩:=by rw [hL]; rfl
 have g22:L.getD 22 default=⟨6,0,-1,5,b+2⟩:=by rw [hL]; rfl
 have g23:L.getD 23 default=⟨1,7,0,0,0⟩:=by rw [hL]; rfl
 have g24:L.getD 24 default=⟨7,0,-1,7,b⟩:=by rw [hL]; rfl
 have g25:L.getD 25 default=⟨10,0,0,0,f+29⟩:=by rw [hL]; rfl
 have g26:L.getD 26 default=⟨1,7,0,0,0⟩:=by rw [hL]; rfl
 have g27:L.getD 27 default=⟨7,0,-1,7,b⟩:=by rw [hL]; rfl
 have g28:L.getD 28 default=⟨10,0,0,0,f⟩:=by rw [hL]; rfl
 clear hL
 have hst:qX th ⟨c,lst,cl⟩ x=(if x.op=7∧¬(yB ⟨c,lst,cl⟩ (reg th x.a)).2=2 then wV th x.r (uN (decide ((yB ⟨c,lst,cl⟩ (reg th x.a)).2=0))) else th,(yB ⟨c,lst,cl⟩ (reg th x.a)).1,!decide ((yB ⟨c,lst,cl⟩ (reg th x.a)).2=2)):=by unfold qX; rw [if_pos (by omega)]
 rw [hx] at hst
 have hv:th.regs.getD x.a.toNat 0=reg th x.a:=rfl
 cases cl
 ·have e8':cls=0:=e8
  subst e8'
  by_cases hful:(lst.length:Int)=c
  ·have hc:yB ⟨c,lst,false⟩ (reg th x.a)=(⟨c,lst,false⟩,1):=by unfold yB; rw [h7]; simp [hful]
   rw [hc] at hst
   have w1 :¬cnt<c:=by omega
   simp [gH,gG,jT,jC.nx,jC.good,jC.ends,jU,vN,gL,gK,uK,So.settled,So.get,So.put,So.to,fle,lV,uN,hlen,-qZw,g2,g3,g4,g5,g6,g7,g8,g9,g10,g11,g12,g13,g14,g15,g16,g17,g18,g19,g20,g21,g22,g23,g24,g25,g26,g27,g28,w1,r1]
   exact ⟨fun e=>absurd e (by simp),fun _ e=>absurd e (by simp),fun _ _=>⟨rfl,rfl,.inl hx⟩,fun _ _=>H.same rfl rfl rfl rfl,fun e=>by simp at e,⟨fun _=>⟨rfl,.inl ⟨hx,hful⟩⟩,fun _=>⟨rfl,rfl⟩⟩,rfl⟩
  ·have hc:yB ⟨c,lst,false⟩ (reg th x.a)=(⟨c,lst++[reg th x.a],false⟩,0):=by unfold yB; rw [h7]; simp [hful]
   rw [hc] at hst
   have w1:cnt<c:=by omega
   have w2:IntKind.i64.wrap (fst+cnt)=fst+cnt:=yG (by omega) (by omega)
   have w3:IntKind.i64.wrap (fst+cnt-c)=fst+cnt-c:=yG (by omega) (by omega)
   have w4:IntKind.i64.wrap (cnt+1)=cnt+1:=yG (by omega) (by omega)
   by_cases hwr:fst+cnt<c
   ·have q1:0≤fst+cnt:=by omega
    have q2:(fst+cnt).toNat<dat.length:=by omega
    simp [gH,gG,jT,jC.nx,jC.good,jC.ends,jU,vN,gL,gK,uK,So.settled,So.get,So.put,So.to,fle,lV,uN,hlen,-qZw,g2,g3,g4,g5,g6,g7,g8,g9,g10,g11,g12,g13,g14,g15,g16,g17,g18,g19,g20,g21,g22,g23,g24,g25,g26,g27,g28,w1,w2,w3,w4,hwr,q1,q2,r1,a1,hv]
    refine ⟨fun e=>absurd e (by simp),fun _ _=>⟨by simp,by rw [hst]; rfl,by rw [hst]; rfl⟩,fun _ e=>absurd rfl e,fun e=>absurd e (by simp),fun _=>?_,⟨fun e=>absurd e.1 (by simp),fun e=>by rcases e.2 with e | e<;>simp only at e<;>omega⟩,rfl⟩
    rw [hst]
    exact H.send hful (by simp only; rw [if_pos hwr]; omega) rfl rfl rfl rfl
   ·have q1:c≤fst+cnt:=by omega
    have q2:(fst+cnt-c).toNat<dat.length:=by omega
    simp [gH,gG,jT,jC.nx,jC.good,jC.ends,jU,vN,gL,gK,uK,So.settled,So.get,So.put,So.to,fle,lV,uN,hlen,-qZw,g2,g3,g4,g5,g6,g7,g8,g9,g10,g11,g12,g13,g14,g15,g16,g17,g18,g19,g20,g21,g22,g23,g24,g25,g26,g27,g28,w1,w2,w3,w4,hwr,q1,q2,r1,a1,hv]
    refine ⟨fun e=>absurd e (by simp),fun _ _=>⟨by simp,by rw [hst]; rfl,by rw [hst]; rfl⟩,fun _ e=>absurd rfl e,fun e=>absurd e (by simp),fun _=>?_,⟨fun e=>absurd e.1 (by simp),fun e=>by rcases e.2 with e | e<;>simp only at e<;>omega⟩,rfl⟩
    rw [hst]
    exact H.send hful (by simp only; rw [if_neg hwr]; omega) rfl rfl rfl rfl
 ·have e8':cls=1:=e8
  subst e8'
  have hc:yB ⟨c,lst,true⟩ (reg th x.a)=(⟨c,lst,true⟩,2):=by unfold yB; rfl
  rw [hc] at hst
  simp [gH,gG,jT,jC.nx,jC.good,jC.ends,jU,vN,gL,gK,uK,So.settled,So.get,So.put,So.to,fle,lV,uN,hlen,-qZw,g2,g3,g4,g5,g6,g7,g8,g9,g10,g11,g12,g13,g14,g15,g16,g17,g18,g19,g20,g21,g22,g23,g24,g25,g26,g27,g28]
  exact ⟨fun _=>by rw [hst]; rfl,fun e=>absurd e (by simp),fun e=>absurd e (by simp),fun _ e=>absurd e (by simp),fun _=>by rw [hst]; exact H.same rfl rfl rfl rfl,⟨fun e=>absurd e.2 (by simp),fun e=>absurd e.1 (by simp)⟩,rfl⟩
theorem qJ4 {f b:Int} {x:Ins} {s:So} {th:yJ} {ch:jS} (hx:x.op=7) (ho:Op4 x) (h:Got s th ch) :∃s' fl,xK f b (vD f b ch.cap x) 40 s=some (s',fl)∧qIl 31 th ch x s' fl:=by
 obtain ⟨h1,h2,h3,h4,h5,h6,h7⟩:=h
 obtain ⟨r0,r1,a0,a1,b0,b1⟩:=ho
 obtain ⟨k,low,t4,t5,t6,t7,fst,cnt,cls,dat,hold⟩:=s
 simp only at h1 h2 h4 h5
 subst h1 h2 h4 h5
 obtain ⟨c,lst,cl⟩:=ch
 have H:=h6
 obtain ⟨e1,e2,e3,e4,e5,e6,e7,e8,e9⟩:=h6
 simp only at e1 e2 e3 e4 e5 e6 e7 e8 e9
 have hL:vD f b c x=[⟨1,7,0,0,1⟩,⟨8,6,0,7,b⟩,⟨11,0,6,0,f+4⟩,⟨10,0,0,0,f⟩,⟨5,4,-1,0,b+3⟩,⟨11,0,4,0,f+9⟩,⟨1,7,0,0,0⟩,⟨7,0,-1,7,b⟩,⟨13,0,0,0,0⟩,⟨5,5,-1,0,b+2⟩,⟨1,7,0,0,c⟩,⟨4,6,5,7,0⟩,⟨11,0,6,0,f+27⟩,⟨5,4,-1,0,b+1⟩,⟨2,4,4,5,0⟩,⟨4,6,4,7,0⟩,⟨11,0,6,0,f+18⟩,⟨10,0,0,0,f+19⟩,⟨3,4,4,7,0⟩,⟨6,0,4,x.a,b+4⟩,⟨1,7,0,0,1⟩,⟨2,5,5,7,0⟩,⟨6,0,-1,5,b+2⟩,⟨1,7,0,0,0⟩,⟨7,0,-1,7,b⟩,⟨1,x.r,0,0,1⟩,⟨10,0,0,0,f+31⟩,⟨1,7,0,0,0⟩,⟨7,0,-1,7,b⟩,⟨1,x.r,0,0,0⟩,⟨10,0,0,0,f+31⟩]:=by simp [vD,cW,sD,rU,lI,mD,oZ,uN,hx]
 generalize vD f b c x=L at hL⊢
 have hlen:L.length=31:=by rw [hL]; rfl
 have g2:L.getD 2 default=⟨11,0,6,0,f+4⟩:=by rw [hL]; rfl
 have g3:L.getD 3 default=⟨10,0,0,0,f⟩:=by rw [hL]; rfl
 have g4:L.getD 4 default=⟨5,4,-1,0,b+3⟩:=by rw [hL]; rfl
 have g5:L.getD 5 default=⟨11,0,4,0,f+9⟩:=by rw [hL]; rfl
 have g6:L.getD 6 default=⟨1,7,0,0,0⟩:=by rw [hL]; rfl
 have g7:L.getD 7 default=⟨7,0,-1,7,b⟩:=by rw [hL]; rfl
 have g8:L.getD 8 default=⟨13,0,0,0,0⟩:=by rw [hL]; rfl
 have g9:L.getD 9 default=⟨5,5,-1,0,b+2⟩:=by rw [hL]; rfl
 have g10:L.getD 10 default=⟨1,7,0,0,c⟩:=by rw [hL]; rfl
 have g11:L.getD 11 default=⟨4,6,5,7,0⟩:=by rw [hL]; rfl
 have g12:L.getD 12 default=⟨11,0,6,0,f+27⟩:=by rw [hL]; rfl
 have g13:L.getD 13 default=⟨5,4,-1,0,b+1⟩:=by rw [hL]; rfl
 have g14:L.getD 14 default=⟨2,4,4,5,0⟩:=by rw [hL]; rfl
 have g15:L.getD 15 default=⟨4,6,4,7,0⟩:=by rw [hL]; rfl
 have g16:L.getD 16 default=⟨11,0,6,0,f+18⟩:=by rw [hL]; rfl
 have g17:L.getD 17 default=⟨10,0,0,0,f+19⟩:=by rw [hL]; rfl
 have g18:L.getD 18 default=⟨3,4,4,7,0⟩:=by rw [hL]; rfl
 have g19:L.getD 19 default=⟨6,0,4,x.a,b+4⟩:=by rw [hL]; rfl
 have g20:L.getD 20 default=⟨1,7,0,0,1⟩:=by rw [hL]; rfl
 have g21:L.getD 21 default=⟨2,5,5,7,0⟩:=by rw [hL]; rfl
 have g22:L.getD 22 default=⟨6,0,-1,5,b+2⟩:=by rw [hL]; rfl
 have g23:L.getD 23 default=⟨1,7,0,0,0⟩:=by rw [hL]; rfl
 have g24:L.getD 24 default=⟨7,0,-1,7,b⟩:=by rw [hL]; rfl
 have g25:L.getD 25 default=⟨1,x.r,0,0,1⟩:=by rw [hL]; rfl
 have g26:L.getD 26 default=⟨10,0,0,0,f+31⟩:=by rw [hL]; rfl
 have g27:L.getD 27 default=⟨1,7,0,0,0⟩:=by rw [hL]; rfl
 have g28:L.getD 28 default=⟨7,0,-1,7,b⟩:=by rw [hL]; rfl
 have g29:L.getD 29 default=⟨1,x.r,0,0,0⟩:=by rw [hL]; rfl
 have g30:L.getD 30 default=⟨10,0,0,0,f+31⟩:=by rw [hL]; rfl
 clear hL
 have hst:qX th ⟨c,lst,cl⟩ x=(if x.op=7∧¬(yB ⟨c,lst,cl⟩ (reg th x.a)).2=2 then wV th x.r (uN (decide ((yB ⟨c,lst,cl⟩ (reg th x.a)).2=0))) else th,(yB ⟨c,lst,cl⟩ (reg th x.a)).1,!decide ((yB ⟨c,lst,cl⟩ (reg th x.a)).2=2)):=by unfold qX; rw [if_pos (by omega)]
 rw [hx] at hst
 have hv:th.regs.getD x.a.toNat 0=reg th x.a:=rfl
 cases cl
 ·have e8':cls=0:=e8
  subst e8'
  by_cases hful:(lst.length:Int)=c
  ·have hc:yB ⟨c,lst,false⟩ (reg th x.a)=(⟨c,lst,false⟩,1):=by unfold yB; rw [h7]; simp [hful]
   rw [hc] at hst
   have w1 :¬cnt<c:=by omega
   simp [gH,gG,jT,jC.nx,jC.good,jC.ends,jU,vN,gL,gK,uK,So.settled,So.get,So.put,So.to,fle,lV,uN,hlen,-qZw,g2,g3,g4,g5,g6,g7,g8,g9,g10,g11,g12,g13,g14,g15,g16,g17,g18,g19,g20,g21,g22,g23,g24,g25,g26,g27,g28,g29,g30,w1,r1]
   exact ⟨fun e=>absurd e (by simp),fun _ _=>⟨by simp,by rw [hst]; rfl,by rw [hst]; rfl⟩,fun _ e=>absurd rfl e,fun e=>absurd e (by simp),fun _=>by rw [hst]; exact H.same rfl rfl rfl rfl,⟨fun e=>absurd e.1 (by simp),fun e=>by omega⟩,rfl⟩
  ·have hc:yB ⟨c,lst,false⟩ (reg th x.a)=(⟨c,lst++[reg th x.a],false⟩,0):=by unfold yB; rw [h7]; simp [hful]
   rw [hc] at hst
   have w1:cnt<c:=by omega
   have w2:IntKind.i64.wrap (fst+cnt)=fst+cnt:=yG (by omega) (by omega)
   have w3:IntKind.i64.wrap (fst+cnt-c)=fst+cnt-c:=yG (by omega) (by omega)
   have w4:IntKind.i64.wrap (cnt+1)=cnt+1:=yG (by omega) (by omega)
   by_cases hwr:fst+cnt<c
   ·have q1:0≤fst+cnt:=by omega
    have q2:(fst+cnt).toNat<dat.length:=by omega
    simp [gH,gG,jT,jC.nx,jC.good,jC.ends,jU,vN,gL,gK,uK,So.settled,So.get,So.put,So.to,fle,lV,uN,hlen,-qZw,g2,g3,g4,g5,g6,g7,g8,g9,g10,g11,g12,g13,g14,g15,g16,g17,g18,g19,g20,g21,g22,g23,g24,g25,g26,g27,g28,g29,g30,w1,w2,w3,w4,hwr,q1,q2,r1,a1,hv]
    refine ⟨fun e=>absurd e (by simp),fun _ _=>⟨by simp,by rw [hst]; rfl,by rw [hst]; rfl⟩,fun _ e=>absurd rfl e,fun e=>absurd e (by simp),fun _=>?_,⟨fun e=>absurd e.1 (by simp),fun e=>by rcases e.2 with e | e<;>simp only at e<;>omega⟩,rfl⟩
    rw [hst]
    exact H.send hful (by simp only; rw [if_pos hwr]; omega) rfl rfl rfl rfl
   ·have q1:c≤fst+cnt:=by omega
    have q2:(fst+cnt-c).toNat<dat.length:=by omega
    simp [gH,gG,jT,jC.nx,jC.good,jC.ends,jU,vN,gL,gK,uK,So.settled,So.get,So.put,So.to,fle,lV,uN,hlen,-qZw,g2,g3,g4,g5,g6,g7,g8,g9,g10,g11,g12,g13,g14,g15,g16,g17,g18,g19,g20,g21,g22,g23,g24,g25,g26,g27,g28,g29,g30,w1,w2,w3,w4,hwr,q1,q2,r1,a1,hv]
    refine ⟨fun e=>absurd e (by simp),fun _ _=>⟨by simp,by rw [hst]; rfl,by rw [hst]; rfl⟩,fun _ e=>absurd rfl e,fun e=>absurd e (by simp),fun _=>?_,⟨fun e=>absurd e.1 (by simp),fun e=>by rcases e.2 with e | e<;>simp only at e<;>omega⟩,rfl⟩
    rw [hst]
    exact H.send hful (by simp only; rw [if_neg hwr]; omega) rfl rfl rfl rfl
 ·have e8':cls=1:=e8
  subst e8'
  have hc:yB ⟨c,lst,true⟩ (reg th x.a)=(⟨c,lst,true⟩,2):=by unfold yB; rfl
  rw [hc] at hst
  simp [gH,gG,jT,jC.nx,jC.good,jC.ends,jU,vN,gL,gK,uK,So.settled,So.get,So.put,So.to,fle,lV,uN,hlen,-qZw,g2,g3,g4,g5,g6,g7,g8,g9,g10,g11,g12,g13,g14,g15,g16,g17,g18,g19,g20,g21,g22,g23,g24,g25,g26,g27,g28,g29,g30]
  exact ⟨fun _=>by rw [hst]; rfl,fun e=>absurd e (by simp),fun e=>absurd e (by simp),fun _ e=>absurd e (by simp),fun _=>by rw [hst]; exact H.same rfl rfl rfl rfl,⟨fun e=>absurd e.2 (by simp),fun e=>absurd e.1 (by simp)⟩,rfl⟩
theorem qR1 {f b:Int} {x:Ins} {s:So} {th:yJ} {ch:jS} (hx:x.op=6) (ho:Op4 x) (h:Got s th ch) (hne:x.r≠x.b) :∃s' fl,xK f b (vD f b ch.cap x) 40 s=some (s',fl)∧qIl 30 th ch x s' fl:=by
 obtain ⟨h1,h2,h3,h4,h5,h6,h7⟩:=h
 obtain ⟨r0,r1,a0,a1,b0,b1⟩:=ho
 obtain ⟨k,low,t4,t5,t6,t7,fst,cnt,cls,dat,hold⟩:=s
 simp only at h1 h2 h4 h5
 subst h1 h2 h4 h5
 obtain ⟨c,lst,cl⟩:=ch
 have H:=h6
 obtain ⟨e1,e2,e3,e4,e5,e6,e7,e8,e9⟩:=h6
 simp only at e1 e2 e3 e4 e5 e6 e7 e8 e9
 have hL:vD f b c x=[⟨1,7,0,0,1⟩,⟨8,6,0,7,b⟩,⟨11,0,6,0,f+4⟩,⟨10,0,0,0,f⟩,⟨5,5,-1,0,b+2⟩,⟨11,0,5,0,f+22⟩,⟨5,4,-1,0,b+1⟩,⟨5,x.r,4,0,b+4⟩,⟨1,7,0,0,1⟩,⟨2,4,4,7,0⟩,⟨3,5,5,7,0⟩,⟨1,7,0,0,c⟩,⟨4,6,4,7,0⟩,⟨11,0,6,0,f+15⟩,⟨10,0,0,0,f+16⟩,⟨1,4,0,0,0⟩,⟨6,0,-1,4,b+1⟩,⟨6,0,-1,5,b+2⟩,⟨1,7,0,0,0⟩,⟨7,0,-1,7,b⟩,⟨1,x.b,0,0,1⟩,⟨10,0,0,0,f+30⟩,⟨5,4,-1,0,b+3⟩,⟨1,7,0,0,0⟩,⟨7,0,-1,7,b⟩,⟨11,0,4,0,f+29⟩,⟨1,x.r,0,0,0⟩,⟨1,x.b,0,0,0⟩,⟨10,0,0,0,f+30⟩,⟨10,0,0,0,f⟩]:=by simp [vD,cW,sD,rU,lI,mD,oZ,uN,hx]
 generalize vD f b c x=L at hL⊢
 have hlen:L.length=30:=by rw [hL]; rfl
 have g2:L.getD 2 default=⟨11,0,6,0,f+4⟩:=by rw [hL]; rfl
 have g3:L.getD 3 default=⟨10,0,0,0,f⟩:=by rw [hL]; rfl
 have g4:L.getD 4 default=⟨5,5,-1,0,b+2⟩:=by rw [hL]; rfl
 have g5:L.getD 5 default=⟨11,0,5,0,f+22⟩:=by rw [hL]; rfl
 have g6:L.getD 6 default=⟨5,4,-1,0,b+1⟩:=by rw [hL]; rfl
 have g7:L.getD 7 default=⟨5,x.r,4,0,b+4⟩:=by rw [hL]; rfl
 have g8:L.getD 8 default=⟨1,7,0,0,1⟩:=by rw [hL]; rfl
 have g9:L.getD 9 default=⟨2,4,4,7,0⟩:=by rw [hL]; rfl
 have g10:L.getD 10 default=⟨3,5,5,7,0⟩:=by rw [hL]; rfl
 have g11:L.getD 11 default=⟨1,7,0,0,c⟩:=by rw [hL]; rfl
 have g12:L.getD 12 default=⟨4,6,4,7,0⟩:=by rw [hL]; rfl
 have g13:L.getD 13 default=⟨11,0,6,0,f+15⟩:=by rw [hL]; rfl
 have g14:L.getD 14 default=⟨10,0,0,0,f+16⟩:=by rw [hL]; rfl
 have g15:L.getD 15 default=⟨1,4,0,0,0⟩:=by rw [hL]; rfl
 have g16:L.getD 16 default=⟨6,0,-1,4,b+1⟩:=by rw [hL]; rfl
 have g17:L.getD 17 default=⟨6,0,-1,5,b+2⟩:=by rw [hL]; rfl
 have g18:L.getD 18 default=⟨1,7,0,0,0⟩:=by rw [hL]; rfl
 have g19:L.getD 19 default=⟨7,0,-1,7,b⟩:=by rw [hL]; rfl
 have g20:L.getD 20 default=⟨1,x.b,0,0,1⟩:=by rw [hL]; rfl
 have g21:L.getD 21 default=⟨10,0,0,0,f+30⟩:=by rw [hL]; rfl
 have g22:L.getD 22 default=⟨5,4,-1,0,b+3⟩:=by rw [hL]; rfl
 have g23:L.getD 23 default=⟨1,7,0,0,0⟩:=by rw [hL]; rfl
 have g24:L.getD 24 default=⟨7,0,-1,7,b⟩:=by rw [hL]; rfl
 have g25:L.getD 25 default=⟨11,0,4,0,f+29⟩:=by rw [hL]; rfl
 have g26:L.getD 26 default=⟨1,x.r,0,0,0⟩:=by rw [hL]; rfl
 have g27:L.getD 27 default=⟨1,x.b,0,0,0⟩:=by rw [hL]; rfl
 have g28:L.getD 28 default=⟨10,0,0,0,f+30⟩:=by rw [hL]; rfl
 have g29:L.getD 29 default=⟨10,0,0,0,f⟩:=by rw [hL]; rfl
 clear hL
 have hst:qX th ⟨c,lst,cl⟩ x=(if (wP ⟨c,lst,cl⟩).2.2=3∧x.op=8 then wV (wV (wV th x.r (wP ⟨c,lst,cl⟩).2.1) x.b (uN (decide ((wP ⟨c,lst,cl⟩).2.2=0)))) x.b 2 else wV (wV th x.r (wP ⟨c,lst,cl⟩).2.1) x.b (uN (decide ((wP ⟨c,lst,cl⟩).2.2=0))),(wP ⟨c,lst,cl⟩).1,!decide ((wP ⟨c,lst,cl⟩).2.2=2)):=by unfold qX; rw [if_neg (by omega),if_pos (by omega)]
 rw [hx] at hst
 by_cases hemp:0<lst.length
 ·have hc:wP ⟨c,lst,cl⟩=(⟨c,lst.drop 1,cl⟩,lst.getD 0 0,0):=by unfold wP; rw [h7]; simp [hemp,-qZw]
  rw [hc] at hst
  have hfi:=H.first hemp
  simp only at hfi
  rw [hfi] at hst
  have w1 :¬cnt=0:=by omega
  have w2:IntKind.i64.wrap (fst+1)=fst+1:=yG (by omega) (by omega)
  have w3:IntKind.i64.wrap (cnt-1)=cnt-1:=yG (by omega) (by omega)
  have q2:fst.toNat<dat.length:=by omega
  by_cases hwr:fst+1<c
  ·simp [gH,gG,jT,jC.nx,jC.good,jC.ends,jU,vN,gL,gK,uK,So.settled,So.get,So.put,So.to,fle,lV,uN,hlen,-qZw,g2,g3,g4,g5,g6,g7,g8,g9,g10,g11,g12,g13,g14,g15,g16,g17,g18,g19,g20,g21,g22,g23,g24,g25,g26,g27,g28,g29,w1,w2,w3,hwr,e5,q2,r1,b1]
   refine ⟨fun e=>absurd e (by simp),fun _ _=>⟨by simp,by rw [hst]; rfl,by rw [hst]; rfl⟩,fun _ e=>absurd rfl e,fun e=>absurd e (by simp),fun _=>?_,⟨fun e=>absurd e.1 (by simp),fun e=>by rcases e.2 with e | e<;>simp only at e<;>omega⟩,rfl⟩
   rw [hst]
   exact H.take hemp rfl (by simp only; rw [if_pos hwr]) rfl rfl
  ·simp [gH,gG,jT,jC.nx,jC.good,jC.ends,jU,vN,gL,gK,uK,So.settled,So.get,So.put,So.to,fle,lV,uN,hlen,-qZw,g2,g3,g4,g5,g6,g7,g8,g9,g10,g11,g12,g13,g14,g15,g16,g17,g18,g19,g20,g21,g22,g23,g24,g25,g26,g27,g28,g29,w1,w2,w3,hwr,e5,q2,r1,b1]
   refine ⟨fun e=>absurd e (by simp),fun _ _=>⟨by simp,by rw [hst]; rfl,by rw [hst]; rfl⟩,fun _ e=>absurd rfl e,fun e=>absurd e (by simp),fun _=>?_,⟨fun e=>absurd e.1 (by simp),fun e=>by rcases e.2 with e | e<;>simp only at e<;>omega⟩,rfl⟩
   rw [hst]
   exact H.take hemp rfl (by simp only; rw [if_neg hwr]) rfl rfl
 have w1:cnt=0:=by omega
 subst w1
 have hlz:lst.length=0:=by omega
 cases cl
 ·have e8':cls=0:=e8
  subst e8'
  have hc:wP ⟨c,lst,false⟩=(⟨c,lst,false⟩,0,1):=by unfold wP; rw [h7]; simp [hlz]
  rw [hc] at hst
  simp [gH,gG,jT,jC.nx,jC.good,jC.ends,jU,vN,gL,gK,uK,So.settled,So.get,So.put,So.to,fle,lV,uN,hlen,-qZw,g2,g3,g4,g5,g6,g7,g8,g9,g10,g11,g12,g13,g14,g15,g16,g17,g18,g19,g20,g21,g22,g23,g24,g25,g26,g27,g28,g29,r1,b1]
  exact ⟨fun e=>absurd e (by simp),fun _ e=>absurd e (by simp),fun _ _=>⟨rfl,rfl,.inr hx⟩,fun _ _=>H.same rfl rfl rfl rfl,fun e=>by simp at e,⟨fun _=>⟨rfl,.inr ⟨hx,by simp only; omega⟩⟩,fun _=>⟨rfl,rfl⟩⟩,rfl⟩
 ·have e8':cls=1:=e8
  subst e8'
  have hc:wP ⟨c,lst,true⟩=(⟨c,lst,true⟩,0,3):=by unfold wP; rw [h7]; simp [hlz]
  rw [hc] at hst
  simp [gH,gG,jT,jC.nx,jC.good,jC.ends,jU,vN,gL,gK,uK,So.settled,So.get,So.put,So.to,fle,lV,uN,hlen,-qZw,g2,g3,g4,g5,g6,g7,g8,g9,g10,g11,g12,g13,g14,g15,g16,g17,g18,g19,g20,g21,g22,g23,g24,g25,g26,g27,g28,g29,r1,b1]
  refine ⟨fun e=>absurd e (by simp),fun _ _=>⟨by simp,by rw [hst]; rfl,?_⟩,fun _ e=>absurd rfl e,fun e=>absurd e (by simp),fun _=>by rw [hst]; exact H.same rfl rfl rfl rfl,⟨fun e=>absurd e.1 (by simp),fun e=>absurd e.1 (by simp)⟩,rfl⟩
  rw [hst]
  simp [wV,uN]
theorem qJ3 {f b:Int} {x:Ins} {s:So} {th:yJ} {ch:jS} (hx:x.op=8) (ho:Op4 x) (h:Got s th ch) (hne:x.r≠x.b) :∃s' fl,xK f b (vD f b ch.cap x) 40 s=some (s',fl)∧qIl 32 th ch x s' fl:=by
 obtain ⟨h1,h2,h3,h4,h5,h6,h7⟩:=h
 obtain ⟨r0,r1,a0,a1,b0,b1⟩:=ho
 obtain ⟨k,low,t4,t5,t6,t7,fst,cnt,cls,dat,hold⟩:=s
 simp only at h1 h2 h4 h5
 subst h1 h2 h4 h5
 obtain ⟨c,lst,cl⟩:=ch
 have H:=h6
 obtain ⟨e1,e2,e3,e4,e5,e6,e7,e8,e9⟩:=h6
 simp only at e1 e2 e3 e4 e5 e6 e7 e8 e9
 have hL:vD f b c x=[⟨1,7,0,0,1⟩,⟨8,6,0,7,b⟩,⟨11,0,6,0,f+4⟩,⟨10,0,0,0,f⟩,⟨5,5,-1,0,b+2⟩,⟨11,0,5,0,f+22⟩,⟨5,4,-1,0,b+1⟩,⟨5,x.r,4,0,b+4⟩,⟨1,7,0,0,1⟩,⟨2,4,4,7,0⟩,⟨3,5,5,7,0⟩,⟨1,7,0,0,c⟩,⟨4,6,4,7,0⟩,⟨11,0,6,0,f+15⟩,⟨10,0,0,0,f+16⟩,⟨1,4,0,0,0⟩,⟨6,0,-1,4,b+1⟩,⟨6,0,-1,5,b+2⟩,⟨1,7,0,0,0⟩,⟨7,0,-1,7,b⟩,⟨1,x.b,0,0,1⟩,⟨10,0,0,0,f+32⟩,⟨5,4,-1,0,b+3⟩,⟨1,7,0,0,0⟩,⟨7,0,-1,7,b⟩,⟨11,0,4,0,f+29⟩,⟨1,x.r,0,0,0⟩,⟨1,x.b,0,0,2⟩,⟨10,0,0,0,f+32⟩,⟨1,x.r,0,0,0⟩,⟨1,x.b,0,0,0⟩,⟨10,0,0,0,f+32⟩]:=by simp [vD,cW,sD,rU,lI,mD,oZ,uN,hx]
 generalize vD f b c x=L at hL⊢
 have hlen:L.length=32:=by rw [hL]; rfl
 have g2:L.getD 2 default=⟨11,0,6,0,f+4⟩:=by rw [hL]; rfl
 have g3:L.getD 3 default=⟨10,0,0,0,f⟩:=by rw [hL]; rfl
 have g4:L.getD 4 default=⟨5,5,-1,0,b+2⟩:=by rw [hL]; rfl
 have g5:L.getD 5 default=⟨11,0,5,0,f+22⟩:=by rw [hL]; rfl
 have g6:L.getD 6 default=⟨5,4,-1,0,b+1⟩:=by rw [hL]; rfl
 have g7:L.getD 7 default=⟨5,x.r,4,0,b+4⟩:=by rw [hL]; rfl
 have g8:L.getD 8 default=⟨1,7,0,0,1⟩:=by rw [hL]; rfl
 have g9:L.getD 9 default=⟨2,4,4,7,0⟩:=by rw [hL]; rfl
 have g10:L.getD 10 default=⟨3,5,5,7,0⟩:=by rw [hL]; rfl
 have g11:L.getD 11 default=⟨1,7,0,0,c⟩:=by rw [hL]; rfl
 have g12:L.getD 12 default=⟨4,6,4,7,0⟩:=by rw [hL]; rfl
 have g13:L.getD 13 default=⟨11,0,6,0,f+15⟩:=by rw [hL]; rfl
 have g14:L.getD 14 default=⟨10,0,0,0,f+16⟩:=by rw [hL]; rfl
 have g15:L.getD 15 default=⟨1,4,0,0,0⟩:=by rw [hL]; rfl
 have g16:L.getD 16 default=⟨6,0,-1,4,b+1⟩:=by rw [hL]; rfl
 have g17:L.getD 17 default=⟨6,0,-1,5,b+2⟩:=by rw [hL]; rfl
 have g18:L.getD 18 default=⟨1,7,0,0,0⟩:=by rw [hL]; rfl
 have g19:L.getD 19 default=⟨7,0,-1,7,b⟩:=by rw [hL]; rfl
 have g20:L.getD 20 default=⟨1,x.b,0,0,1⟩:=by rw [hL]; rfl
 have g21:L.getD 21 default=⟨10,0,0,0,f+32⟩:=by rw [hL]; rfl
 have g22:L.getD 22 default=⟨5,4,-1,0,b+3⟩:=by rw [hL]; rfl
 have g23:L.getD 23 default=⟨1,7,0,0,0⟩:=by rw [hL]; rfl
 have g24:L.getD 24 default=⟨7,0,-1,7,b⟩:=by rw [hL]; rfl
 have g25:L.getD 25 default=⟨11,0,4,0,f+29⟩:=by rw [hL]; rfl
 have g26:L.getD 26 default=⟨1,x.r,0,0,0⟩:=by rw [hL]; rfl
 have g27:L.getD 27 default=⟨1,x.b,0,0,2⟩:=by rw [hL]; rfl
 have g28:L.getD 28 default=⟨10,0,0,0,f+32⟩:=by rw [hL]; rfl
 have g29:L.getD 29 default=⟨1,x.r,0,0,0⟩:=by rw [hL]; rfl
 have g30:L.getD 30 default=⟨1,x.b,0,0,0⟩:=by rw [hL]; rfl
 have g31:L.getD 31 default=⟨10,0,0,0,f+32⟩:=by rw [hL]; rfl
 clear hL
 have hst:qX th ⟨c,lst,cl⟩ x=(if (wP ⟨c,lst,cl⟩).2.2=3∧x.op=8 then wV (wV (wV th x.r (wP ⟨c,lst,cl⟩).2.1) x.b (uN (decide ((wP ⟨c,lst,cl⟩).2.2=0)))) x.b 2 else wV (wV th x.r (wP ⟨c,lst,cl⟩).2.1) x.b (uN (decide ((wP ⟨c,lst,cl⟩).2.2=0))),(wP ⟨c,lst,cl⟩).1,!decide ((wP ⟨c,lst,cl⟩).2.2=2)):=by unfold qX; rw [if_neg (by omega),if_pos (by omega)]
 rw [hx] at hst
 by_cases hemp:0<lst.length
 ·have hc:wP ⟨c,lst,cl⟩=(⟨c,lst.drop 1,cl⟩,lst.getD 0 0,0):=by unfold wP; rw [h7]; simp [hemp,-qZw]
  rw [hc] at hst
  have hfi:=H.first hemp
  simp only at hfi
  rw [hfi] at hst
  have w1 :¬cnt=0:=by omega
  have w2:IntKind.i64.wrap (fst+1)=fst+1:=yG (by omega) (by omega)
  have w3:IntKind.i64.wrap (cnt-1)=cnt-1:=yG (by omega) (by omega)
  have q2:fst.toNat<dat.length:=by omega
  by_cases hwr:fst+1<c
  ·simp [gH,gG,jT,jC.nx,jC.good,jC.ends,jU,vN,gL,gK,uK,So.settled,So.get,So.put,So.to,fle,lV,uN,hlen,-qZw,g2,g3,g4,g5,g6,g7,g8,g9,g10,g11,g12,g13,g14,g15,g16,g17,g18,g19,g20,g21,g22,g23,g24,g25,g26,g27,g28,g29,g30,g31,w1,w2,w3,hwr,e5,q2,r1,b1]
   refine ⟨fun e=>absurd e (by simp),fun _ _=>⟨by simp,by rw [hst]; rfl,by rw [hst]; rfl⟩,fun _ e=>absurd rfl e,fun e=>absurd e (by simp),fun _=>?_,⟨fun e=>absurd e.1 (by simp),fun e=>by rcases e.2 with e | e<;>simp only at e<;>omega⟩,rfl⟩
   rw [hst]
   exact H.take hemp rfl (by simp only; rw [if_pos hwr]) rfl rfl
  ·simp [gH,gG,jT,jC.nx,jC.good,jC.ends,jU,vN,gL,gK,uK,So.settled,So.get,So.put,So.to,fle,lV,uN,hlen,-qZw,g2,g3,g4,g5,g6,g7,g8,g9,g10,g11,g12,g13,g14,g15,g16,g17,g18,g19,g20,g21,g22,g23,g24,g25,g26,g27,g28,g29,g30,g31,w1,w2,w3,hwr,e5,q2,r1,b1]
   refine ⟨fun e=>absurd e (by simp),fun _ _=>⟨by simp,by rw [hst]; rfl,by rw [hst]; rfl⟩,fun _ e=>absurd rfl e,fun e=>absurd e (by simp),fun _=>?_,⟨fun e=>absurd e.1 (by simp),fun e=>by rcases e.2 with e | e<;>simp only at e<;>omega⟩,rfl⟩
   rw [hst]
   exact H.take hemp rfl (by simp only; rw [if_neg hwr]) rfl rfl
 have w1:cnt=0:=by omega
 subst w1
 have hlz:lst.length=0:=by omega
 cases cl
 ·have e8':cls=0:=e8
  subst e8'
  have hc:wP ⟨c,lst,false⟩=(⟨c,lst,false⟩,0,1):=by unfold wP; rw [h7]; simp [hlz]
  rw [hc] at hst
  simp [gH,gG,jT,jC.nx,jC.good,jC.ends,jU,vN,gL,gK,uK,So.settled,So.get,So.put,So.to,fle,lV,uN,hlen,-qZw,g2,g3,g4,g5,g6,g7,g8,g9,g10,g11,g12,g13,g14,g15,g16,g17,g18,g19,g20,g21,g22,g23,g24,g25,g26,g27,g28,g29,g30,g31,r1,b1]
  exact ⟨fun e=>absurd e (by simp),fun _ _=>⟨by simp,by rw [hst]; rfl,by rw [hst]; rfl⟩,fun _ e=>absurd rfl e,fun e=>absurd e (by simp),fun _=>by rw [hst]; exact H.same rfl rfl rfl rfl,⟨fun e=>absurd e.1 (by simp),fun e=>by omega⟩,rfl⟩
 ·have e8':cls=1:=e8
  subst e8'
  have hc:wP ⟨c,lst,true⟩=(⟨c,lst,true⟩,0,3):=by unfold wP; rw [h7]; simp [hlz]
  rw [hc] at hst
  simp [gH,gG,jT,jC.nx,jC.good,jC.ends,jU,vN,gL,gK,uK,So.settled,So.get,So.put,So.to,fle,lV,uN,hlen,-qZw,g2,g3,g4,g5,g6,g7,g8,g9,g10,g11,g12,g13,g14,g15,g16,g17,g18,g19,g20,g21,g22,g23,g24,g25,g26,g27,g28,g29,g30,g31,r1,b1]
  refine ⟨fun e=>absurd e (by simp),fun _ _=>⟨by simp,by rw [hst]; rfl,?_⟩,fun _ e=>absurd rfl e,fun e=>absurd e (by simp),fun _=>by rw [hst]; exact H.same rfl rfl rfl rfl,⟨fun e=>absurd e.1 (by simp),fun e=>absurd e.1 (by simp)⟩,rfl⟩
  rw [hst]
  simp [wV,uN]
def qZ1:Prop :=∀(f b:Int) (x:Ins) (a:So) (th:yJ) (ch:jS),5≤x.op∧x.op≤9→Op4 x→(x.op=6∨x.op=8→x.r≠x.b)→Got a th ch→∃e fl,xK f b (vD f b ch.cap x) 40 a=some (e,fl)∧qIl (wI x).toNat th ch x e fl
theorem qYt:qZ1:=by
 intro f b x a th ch hx ho hne hg
 have h:x.op=5∨x.op=6∨x.op=7∨x.op=8∨x.op=9:=by omega
 rcases h with h | h | h | h | h
 ·have:=qR2 (f:=f) (b:=b) h ho hg; unfold wI; simpa [h] using this
 ·have:=qR1 (f:=f) (b:=b) h ho hg (hne (.inl h)); unfold wI; simpa [h] using this
 ·have:=qJ4 (f:=f) (b:=b) h ho hg; unfold wI; simpa [h] using this
 ·have:=qJ3 (f:=f) (b:=b) h ho hg (hne (.inr h)); unfold wI; simpa [h] using this
 ·have:=qNe (f:=f) (b:=b) h ho hg; unfold wI; simpa [h] using this
theorem qI3 {caps:List Int} {b:List Ins} (hb:wJ b caps.length=true) (hl:zU caps=true) {j k:Nat} :∀(n:Nat),n≤b.length→j<n→(k:Int)<wI (b.getD j default)→
  (szB (b.take j)).toNat+k<(aO caps b n).length∧(aO caps b n).getD ((szB (b.take j)).toNat+k) default=(tJ caps (b.getD j default) (szB (b.take j)) (gX b)).getD k default
 | 0,_,h,_=>by omega
 | n+1,hn,hj,hk=>by
  have hs:=lH hb hl n (by omega)
  have he:=qD9 hb hl n (by omega) (szB (b.take n))
  by_cases hc:j<n
  ·obtain ⟨h1,h2⟩:=qI3 hb hl n (by omega) hc hk
   refine ⟨by simp only [aO,wAa]; omega,?_⟩
   rw [←h2,aO]
   simp only [qZw]
   rw [wA9 h1]
  ·obtain rfl:j=n:=by omega
   have h0:=(qBk b j).1
   refine ⟨by simp only [aO,wAa]; omega,?_⟩
   rw [aO,qZw,qZk (by omega),←qZw]
   congr 1
   omega
theorem qVc {caps:List Int} {b:List Ins} (hb:wJ b caps.length=true) (hl:zU caps=true) {j k:Nat} (hj:j<b.length) (hk:(k:Int)<wI (b.getD j default)) :
  (szB (b.take j)).toNat+k<(comp caps b).length∧(comp caps b).getD ((szB (b.take j)).toNat+k) default=(tJ caps (b.getD j default) (szB (b.take j)) (gX b)).getD k default :=
 qI3 hb hl b.length (qZt _) hj hk
theorem qSj {caps:List Int} {b:List Ins} (hb:wJ b caps.length=true) (hl:zU caps=true):((comp caps b).length:Int)=szB b:=by
 have:=lH hb hl b.length (qZt _)
 rw [wBv] at this
 exact this
theorem qE8 :∀(b:List Ins) (off k at_:Int) (i:Nat),i<b.length→off+szB (b.take i)≤at_→at_<off+szB (b.take (i+1))→dK b off k at_=(k+i,decide (at_=off+szB (b.take i)))
 | [],_,_,_,i,h,_,_=>by simp at h
 | x::l,off,k,at_,0,_,h1,h2=>by
  simp only [List.take_zero,szB,wBs] at h1 h2
  unfold dK
  rw [if_pos (by omega)]
  simp [szB]
 | x::l,off,k,at_,i+1,h,h1,h2=>by
  simp only [wBs,szB] at h1 h2
  have hl:=(qIx (l.take i)).1
  unfold dK
  rw [if_neg (by omega)]
  rw [qE8 l (off+wI x) (k+1) at_ i (by simpa using h) (by omega) (by omega)]
  refine Prod.ext (by push_cast; omega) ?_
  simp only [wBs,szB]
  congr 1
  apply propext
  constructor<;>intro e<;>omega
theorem qJu {x:Ins} (h:1≤x.op∧x.op≤13):1≤wI x:=by
 unfold wI
 repeat' split
 all_goals (try omega)
 rw [qK.2 h]
 decide
theorem qJv {x:Ins} (h:1≤x.op∧x.op≤13) (hc :¬(5≤x.op∧x.op≤9)):wI x=1:=by
 unfold wI
 rw [if_neg (by omega),if_neg (by omega),if_neg (by omega),if_neg (by omega),if_neg (by omega),qK.2 h]
 rfl
theorem eC {x:Ins} (hc:5≤x.op∧x.op≤9):13≤wI x:=by
 unfold wI
 repeat' split
 all_goals (try omega)
theorem qKx {b:List Ins} (hb :∀i,i<b.length→1≤wI (b.getD i default)) :∀(i j:Nat),i<j→j≤b.length→szB (b.take i)<szB (b.take j)
 | i,0,h,_=>by omega
 | i,j+1,h,hj=>by
  have h1:=hb j (by omega)
  rw [mB b j (by omega)]
  by_cases e:i=j
  ·rw [e]; omega
  ·have:=qKx hb i j (by omega) (by omega)
   omega
theorem qKe {caps:List Int} (hl:zU caps=true) {n:Nat} (h:n<caps.length):base caps n=eY (caps.take n):=by
 unfold base
 have hw:qV (n:Int) 0 ((caps.length:Int)-1)=true:=by rw [qK]; omega
 rw [hl,hw]
 rfl
def bs (caps:List Int) (n:Nat):Nat:=(eY (caps.take n)).toNat
def cp (caps:List Int) (n:Nat):Nat:=(caps.getD n 0).toNat
theorem xM {caps:List Int} (hl:zU caps=true) {n:Nat} (h:n<caps.length):base caps n=(bs caps n:Int)∧caps.getD n 0=(cp caps n:Int)∧1≤cp caps n∧cp caps n≤4∧bs caps n+cp caps n+4≤24:=by
 have e:=qKe hl h
 have hn :¬base caps n<0:=qLt hl (by omega)
 obtain ⟨_,_,_,h1,h2,h3⟩:=qP0 hn
 rw [qK,wBl] at h3
 rw [wBl] at h2
 unfold bs cp
 rw [←e]
 omega
theorem qFh {caps:List Int} (hl:zU caps=true) :∀{n k:Nat},n<k→k<caps.length→bs caps n+cp caps n+4≤bs caps k
 | n,0,h,_=>by omega
 | n,k+1,h,hk=>by
  have h1:=xM hl (n:=k) (by omega)
  have h2:=xM hl (n:=k+1) hk
  have h3:=qGx caps k (by omega)
  rw [qKe hl hk] at h2
  rw [qKe hl (by omega)] at h1
  by_cases e:n=k
  ·subst e; omega
  ·have:=qFh hl (n:=n) (k:=k) (by omega) (by omega)
   omega
theorem So.put_dat (s:So) (r v:Int):(s.put r v).dat=s.dat∧(s.put r v).fst=s.fst∧(s.put r v).cnt=s.cnt∧(s.put r v).cls=s.cls∧(s.put r v).hold=s.hold∧(s.put r v).k=s.k:=by
 unfold So.put
 repeat' split
 all_goals exact ⟨rfl,rfl,rfl,rfl,rfl,rfl⟩
theorem qH3 {f b:Int} {L:List yV} :∀{n:Nat} {a e:So} {fl:Bool},xK f b L n a=some (e,fl)→a.hold=false→e.fst=a.fst∧e.cnt=a.cnt∧e.cls=a.cls∧e.dat=a.dat∧e.hold=false
 | n,a,e,fl,h,hh=>by
  cases hs:a.settled L.length
  ·obtain ⟨_,m,rfl,h1 | h1⟩:=aQ h hs
   ·obtain ⟨s',h2,_,h3⟩:=h1
    have hk:s'.fst=a.fst∧s'.cnt=a.cnt∧s'.cls=a.cls∧s'.dat=a.dat∧s'.hold=false:=by
     unfold jU at h2
     have hp:=fun r v=>So.put_dat a r v
     repeat' split at h2
     all_goals (first
      | (exfalso; rename_i hc; exact hc hh)
      | (cases h2; done)
      | (cases h2; exact ⟨(hp _ _).2.1,(hp _ _).2.2.1,(hp _ _).2.2.2.1,(hp _ _).1,(hp _ _).2.2.2.2.1.trans hh⟩)
      | (cases h2; exact ⟨rfl,rfl,rfl,rfl,hh⟩))
    obtain ⟨k1,k2,k3,k4,k5⟩:=hk
    obtain ⟨g1,g2,g3,g4,g5⟩:=qH3 h3 k5
    exact ⟨by rw [g1,k1],by rw [g2,k2],by rw [g3,k3],by rw [g4,k4],g5⟩
   ·obtain ⟨s',h2,h3,h4⟩:=h1
    simp only [Prod.mk.injEq] at h4
    obtain ⟨rfl,_⟩:=h4
    have:e=a:=by
     unfold jU at h2
     repeat' split at h2
     all_goals (first | exact absurd h2 kL | (cases h2; done) | (cases h2; rfl))
    subst this
    exact ⟨rfl,rfl,rfl,rfl,hh⟩
  ·rw [jT hs] at h
   simp only [Option.some.injEq,Prod.mk.injEq] at h
   obtain ⟨rfl,_⟩:=h
   exact ⟨rfl,rfl,rfl,rfl,hh⟩
theorem qH2 {f b:Int} {L:List yV} :∀{n:Nat} {a:So} {r:So×Bool},xK f b L n a=some r→xK f b L (n+1) a=some r
 | n,a,r,h=>by
  cases hs:a.settled L.length
  ·obtain ⟨hk,m,rfl,h1 | h1⟩:=aQ h hs
   ·obtain ⟨s',h2,h4,h3⟩:=h1
    exact qJ5 hs hk h2 h4 (qH2 h3)
   ·obtain ⟨s',h2,h3,rfl⟩:=h1
    exact qA6 hs hk h2 h3
  ·rw [jT hs] at h⊢
   exact h
theorem qWe {f b:Int} {L:List yV} {n m:Nat} {a:So} {r:So×Bool} (h:xK f b L n a=some r) (hm:n≤m):xK f b L m a=some r:=by
 obtain ⟨d,rfl⟩:=Nat.le.dest hm
 clear hm
 induction d with
 | zero=>exact h
 | succ d ih=>exact qH2 ih
theorem qA7 {f b:Int} {L:List yV} :∀{n:Nat} {a:So} {r:So×Bool},xK f b L n a=some r→xK f b L (L.length-a.k) a=some r
 | n,a,r,h=>by
  cases hs:a.settled L.length
  ·obtain ⟨hk,m,rfl,h1 | h1⟩:=aQ h hs
   ·obtain ⟨s',h2,h4,h3⟩:=h1
    obtain ⟨d,hd⟩ :∃d,L.length-a.k=d+1:=⟨L.length-a.k-1,by omega⟩
    rw [hd]
    refine qJ5 hs hk h2 h4 ?_
    rcases h4 with h4 | ⟨h4,h5⟩
    ·exact qWe (qA7 h3) (by omega)
    ·have hse:s'.settled L.length=true:=by simp [So.settled,h4,h5]
     rw [jT hse] at h3⊢
     exact h3
   ·obtain ⟨s',h2,h3,rfl⟩:=h1
    obtain ⟨d,hd⟩ :∃d,L.length-a.k=d+1:=⟨L.length-a.k-1,by omega⟩
    rw [hd]
    exact qA6 hs hk h2 h3
  ·rw [jT hs] at h⊢
   exact h
theorem qTl {f b:Int} {t:yV} {a s':So} (h:jU f b t a=.go s'):t.op≠8∧t.op≠9:=by
 refine ⟨fun e=>?_,fun e=>?_⟩<;>(unfold jU vN at h; rw [e] at h; simp at h)
theorem qNf {f b:Int} {t:yV} {a s':So} (h:jU f b t a=.stop s'):t.op=13∧s'=a:=by
 unfold jU at h
 repeat' split at h
 all_goals (first | exact absurd h kL | (cases h; done) | (rename_i h13; cases h; exact ⟨h13,rfl⟩))
theorem qL2 {b:Int} {t:yV} {a s':So} (h:vN b t a=.go s'):s'.dat.length=a.dat.length:=by
 unfold vN gL gK uK at h
 have hp:=fun r v=>(So.put_dat a r v).1
 repeat' split at h
 all_goals (first
  | (cases h; done)
  | (cases h; rfl)
  | (cases h; exact congrArg List.length (hp _ _))
  | (cases h; exact wBb))
theorem qR3 {f b:Int} {t:yV} {a s':So} (h:jU f b t a=.go s'):s'.dat.length=a.dat.length:=by
 unfold jU at h
 have hp:=fun r v=>(So.put_dat a r v).1
 repeat' split at h
 all_goals (first
  | exact qL2 h
  | (cases h; done)
  | (cases h; rfl)
  | (cases h; exact congrArg List.length (hp _ _)))
structure lQ (K:uF) (f:Int) (s:So):Prop where
 at_:K.at_=f+s.k
 regs:K.regs=s.low++[s.t4,s.t5,s.t6,s.t7]
 low:s.low.length=4
 st:K.st=0
theorem lQ.get {K:uF} {f:Int} {s:So} (h:lQ K f s) {r:Int} (h0:0≤r) (h1:r≤7):rg K r=s.get r:=by
 unfold rg So.get
 rw [h.regs]
 obtain ⟨n,rfl⟩:=wBw h0
 simp only [wBl]
 have hl:=h.low
 by_cases hn:n<4
 ·rw [if_pos (by omega)]
  simp [qZw,wA9 (show n<s.low.length by omega)]
 ·rw [if_neg (by omega)]
  rw [qZw,qZk (by omega),hl]
  have:n=4∨n=5∨n=6∨n=7:=by omega
  rcases this with rfl | rfl | rfl | rfl<;>simp
theorem lQ.put {K:uF} {f:Int} {s:So} (h:lQ K f s) {r v:Int} (h0:0≤r) (h1:r≤7) (a:Int) (vw:List Int) (k:Nat) (ha:a=f+k):lQ ⟨a,K.regs.set r.toNat v,vw,K.st⟩ f ((s.put r v).to k):=by
 obtain ⟨n,rfl⟩:=wBw h0
 have hl:=h.low
 have hr:=h.regs
 refine ⟨by simpa [So.to] using ha,?_,?_,h.st⟩
 ·rw [hr]
  simp only [wBl,So.put,So.to]
  by_cases hn:n<4
  ·rw [if_pos (by omega)]
   simp only
   rw [List.set_append_left _ _ (by omega)]
  ·rw [if_neg (by omega),List.set_append_right _ _ (by omega),hl]
   have:n=4∨n=5∨n=6∨n=7:=by omega
   rcases this with rfl | rfl | rfl | rfl<;>simp
 ·simp only [So.put,So.to]
  repeat' split
  all_goals simp [hl]
theorem lQ.move {K:uF} {f:Int} {s:So} (h:lQ K f s) (a:Int) (vw:List Int) (k:Nat) (ha:a=f+k):lQ ⟨a,K.regs,vw,K.st⟩ f (s.to k) :=
 ⟨by simpa [So.to] using ha,h.regs,h.low,h.st⟩
structure qBe (cs:List (List wZ)) (b:Nat) (s:So):Prop where
 fst:jH cs (b+1)=s.fst
 cnt:jH cs (b+2)=s.cnt
 cls:jH cs (b+3)=s.cls
 dat :∀j:Nat,j<s.dat.length→jH cs (b+4+j)=s.dat.getD j 0
def fY (cs:List (List wZ)) (b n:Nat) (v:List Int):Prop :=∀j:Nat,1≤j→j<n+4→v.getD (b+j) 0=((cs.getD (b+j) []).length:Int)-1
theorem cL {m:qR} {i:Nat} (hi:i<m.cores.length):eJ m i=if (qI m i).st≠0∨((qQ m i).op=9∧(m.tr.length:Int)=4000) then 3
  else if eK (qQ m i).op&&!decide ((qQ m i).op=5)&&qV (bC (qI m i) (qQ m i)) 0 23&&decide ((4000:Int)≤(m.mem.cells.getD (bC (qI m i) (qQ m i)).toNat []).length) then 3 else 0:=by
 have hw:qV (i:Int) 0 ((m.cores.length:Int)-1)=true:=by rw [qK]; omega
 unfold eJ
 rw [if_pos hw]
 rfl
theorem qAr {m:qR} {i:Nat} (hi:i<m.cores.length) (hst:(qI m i).st=0) (h9:(qQ m i).op≠9) (hm:eK (qQ m i).op=false):eJ m i=0:=by
 rw [cL hi,if_neg (by rw [hst]; simp [h9]),hm]
 simp
theorem qAq {m:qR} {i:Nat} (hi:i<m.cores.length) (hst:(qI m i).st=0) (hm:eK (qQ m i).op=true) :
  eJ m i=3∨(eJ m i=0∧((qQ m i).op≠5→qV (bC (qI m i) (qQ m i)) 0 23=true→(m.mem.cells.getD (bC (qI m i) (qQ m i)).toNat []).length<4000)):=by
 have h9:(qQ m i).op≠9:=by intro e; rw [e] at hm; exact absurd hm (by decide)
 rw [cL hi,if_neg (by rw [hst]; simp [h9]),hm]
 by_cases h5:(qQ m i).op=5
 ·right
  rw [h5]
  simp
 ·cases hc:qV (bC (qI m i) (qQ m i)) 0 23
  ·right
   simp
  ·by_cases hf:(4000:Int)≤(m.mem.cells.getD (bC (qI m i) (qQ m i)).toNat []).length
   ·left
    simp [h5,hf,-qZw]
   ·right
    refine ⟨by simp [h5,hf,-qZw],fun _ _=>by omega⟩
theorem cV {m:qR} {i:Nat} {late:Int} (h:eJ m i=3):yX m ⟨i,late⟩=(m,3):=by
 unfold yX
 simp only
 rw [h,if_neg (by decide)]
theorem mX {m:qR} {i:Nat} {late:Int} (h:eJ m i=0):yX m ⟨i,late⟩=(mdo m i late,0):=by
 unfold yX
 simp only
 rw [h,if_pos rfl,wBl]
theorem aR (m:qR) (i j:Nat) (k:uF) (h:j≠i):qI (dJ m i k) j=qI m j:=by
 unfold qI dJ
 simp [qZw,List.getElem?_set,show¬i=j from fun e=>h e.symm]
theorem eI {m:qR} {i:Nat} {late:Int} (hi:i<m.cores.length) (hst:(qI m i).st=0) (h9:(qQ m i).op≠9) (h12:(qQ m i).op≠12) (h13:(qQ m i).op≠13) (hm:eK (qQ m i).op=false)
  (hn:gM (qI m i) (qQ m i)<((m.codes.getD i []).length:Int)) :
  yX m ⟨i,late⟩=(dJ m i {alu (qI m i) (qQ m i) with at_:=gM (qI m i) (qQ m i)},0):=by
 rw [mX (qAr hi hst h9 hm)]
 unfold mdo
 simp only
 rw [if_neg h12,if_neg h13,hm,if_neg (by decide),if_neg h9]
 unfold qGj
 rw [if_neg (by omega)]
theorem qLj {m:qR} {i:Nat} {late:Int} (hi:i<m.cores.length) (hst:(qI m i).st=0) (h13:(qQ m i).op=13):yX m ⟨i,late⟩=(dJ m i {qI m i with st:=2},0):=by
 rw [mX (qAr hi hst (by omega) (by rw [h13]; decide))]
 unfold mdo stop
 simp only
 rw [if_neg (by omega),if_pos h13]
theorem qRw {cs:List (List wZ)} {view:List Int} {c:Nat} {late:Int} (hm:qCw cs) (hv:VOk cs view) (hc:c<24) (h:view.getD c 0=((cs.getD c []).length:Int)-1):load cs view c late false=(jH cs c,view):=by
 have h1:=(hm.cell c hc).1
 have e:max (((cs.getD c []).length:Int)-1-max late 0) (view.getD c 0)=((cs.getD c []).length:Int)-1:=by omega
 unfold load
 simp only
 rw [e]
 refine Prod.ext ?_ ?_
 ·rw [if_neg (by decide)]
  show ((cs.getD c []).getD (((cs.getD c []).length:Int)-1).toNat default).v=jH cs c
  unfold jH
  congr 2
  omega
 ·rw [if_neg (by decide),←h]
  exact jD _ _ _ (by rw [hv.1]; exact hc)
theorem bR {cs:List (List wZ)} {c:Nat} (w:wZ) (hc:c<cs.length) (d:Nat):jH (cs.set c (cs.getD c []++[w])) d=if d=c then w.v else jH cs d:=by
 unfold jH
 rw [uH _ _ _ _ _ hc]
 split
 ·simp [qZw]
 ·rfl
structure qA0 (m m':qR) (i:Nat) (f:Int) (b:Nat) (s s':So):Prop where
 tr:m'.tr=m.tr
 codes:m'.codes=m.codes
 len:m'.cores.length=m.cores.length
 other :∀j,j≠i→qI m' j=qI m j
 core:lQ (qI m' i) f s'
 dat:s'.dat.length=s.dat.length
 held:s'.hold=true→s.hold=true∧qBe m'.mem.cells b s'∧fY m'.mem.cells b s.dat.length (qI m' i).view∧m'.mem.cells.getD b []=m.mem.cells.getD b []
 out :∀c,¬(b≤c∧c<b+4+s.dat.length)→m'.mem.cells.getD c []=m.mem.cells.getD c []
 none:s.hold=false→m'.mem=m.mem
 free:s.hold=true→s'.hold=false→jH m'.mem.cells b=0∧qBe m'.mem.cells b s'∧fY m'.mem.cells b s.dat.length ((m'.mem.cells.getD b []).getD ((m'.mem.cells.getD b []).length-1) default).view
theorem iQ (m:qR) (i:Nat) (k:uF):(dJ m i k).cores.length=m.cores.length:=by simp [dJ]
theorem vI (m:qR) (i:Nat) (k:uF) (h:i<m.cores.length):qI (dJ m i k) i=k:=by rw [qPq m i i k h,if_pos rfl]
theorem qFq {m:qR} {i:Nat} {f:Int} {b:Nat} {s s':So} (hi:i<m.cores.length) {K':uF} (hK:lQ K' f s') (hv:K'.view=(qI m i).view) (h1:s'.dat=s.dat) (h2:s'.fst=s.fst) (h3:s'.cnt=s.cnt) (h4:s'.cls=s.cls) (h5:s'.hold=s.hold)
  (hd:s.hold=true→qBe m.mem.cells b s∧fY m.mem.cells b s.dat.length (qI m i).view):qA0 m (dJ m i K') i f b s s' where
 tr:=rfl
 codes:=rfl
 len:=iQ _ _ _
 other:=fun j hj=>aR m i j K' hj
 core:=by rw [vI m i K' hi]; exact hK
 dat:=by rw [h1]
 held:=fun h=>by
  rw [h5] at h
  obtain ⟨a,c⟩:=hd h
  rw [vI m i K' hi,hv]
  exact ⟨h,⟨by rw [h2]; exact a.fst,by rw [h3]; exact a.cnt,by rw [h4]; exact a.cls,by rw [h1]; exact a.dat⟩,c,rfl⟩
 out:=fun c _=>rfl
 none:=fun _=>rfl
 free:=fun h h'=>by rw [h5,h] at h'; exact absurd h' (by decide)
theorem qK9 {m:qR} {i:Nat} {f:Int} {b:Nat} {s s':So} (hM:MOk m) (hi:i<m.cores.length) (hc:lQ (qI m i) f s)
  (hd:s.hold=true→qBe m.mem.cells b s∧fY m.mem.cells b s.dat.length (qI m i).view) (ht:jU f b (qQ m i) s=.go s') (hn:f+s'.k<((m.codes.getD i []).length:Int)) (hf:0≤f)
  (hop:(qQ m i).op≤4∨(qQ m i).op=10∨(qQ m i).op=11) :∃m',(∀late,yX m ⟨i,late⟩=(m',0))∧qA0 m m' i f b s s':=by
 obtain ⟨r0,r1,b0,b1,o0,o1,ha⟩:=zZ (cG hM hi)
 have ga:0≤(qQ m i).a∧(qQ m i).a≤7:=by omega
 have hm:eK (qQ m i).op=false:=by
  unfold eK
  have h5 :¬(qQ m i).op=5:=by omega
  have h6 :¬(qQ m i).op=6:=by omega
  have h7 :¬(qQ m i).op=7:=by omega
  have h8 :¬(qQ m i).op=8:=by omega
  simp [h5,h6,h7,h8]
 have ea:=hc.get ga.1 ga.2
 have eb:=hc.get b0 b1
 have hat:=hc.at_
 have hst:=hc.st
 have hloc:=fun (late:Int)=>@eI m i late hi hst (by omega) (by omega) (by omega) hm
 generalize qQ m i=t at *
 have key :∀K':uF,K' = {alu (qI m i) t with at_:=gM (qI m i) t}→lQ K' f s'→K'.view=(qI m i).view→s'.dat=s.dat→s'.fst=s.fst→s'.cnt=s.cnt→s'.cls=s.cls→s'.hold=s.hold→∃m',(∀late,yX m ⟨i,late⟩=(m',0))∧qA0 m m' i f b s s':=by
  intro K' hK h0 h6 h1 h2 h3 h4 h5
  refine ⟨dJ m i K',fun late=>?_,qFq hi h0 h6 h1 h2 h3 h4 h5 hd⟩
  rw [hloc late,←hK]
  have:=h0.at_
  rw [hK] at this
  simp only at this
  rw [this]
  exact hn
 have hkey :∀(r v:Int),0≤r→r≤7→s'=(s.put r v).to (s.k+1)→{alu (qI m i) t with at_:=gM (qI m i) t}=(⟨(qI m i).at_+1,(qI m i).regs.set r.toNat v,(qI m i).view,(qI m i).st⟩:uF)→∃m',(∀late,yX m ⟨i,late⟩=(m',0))∧qA0 m m' i f b s s':=by
  intro r v h0 h1 hs hK
  subst hs
  obtain ⟨p1,p2,p3,p4,p5,p6⟩:=So.put_dat s r v
  exact key _ rfl (by rw [hK]; exact hc.put h0 h1 _ _ _ (by rw [hat]; push_cast; omega)) (by rw [hK]) p1 p2 p3 p4 p5
 have hcase:t.op=1∨t.op=2∨t.op=3∨t.op=4∨t.op=10∨t.op=11:=by omega
 rcases hcase with ho | ho | ho | ho | ho | ho
 ·simp only [jU,ho,if_pos,jC.go.injEq] at ht
  refine hkey t.r t.n r0 r1 ht.symm ?_
  simp [alu,gM,qA8,ho]
 ·simp [jU,ho] at ht
  refine hkey t.r _ r0 r1 ht.symm ?_
  simp [alu,gM,qA8,ho,ea,eb]
 ·simp [jU,ho] at ht
  refine hkey t.r _ r0 r1 ht.symm ?_
  simp [alu,gM,qA8,ho,ea,eb]
 ·simp [jU,ho] at ht
  refine hkey t.r _ r0 r1 ht.symm ?_
  simp [alu,gM,qA8,ho,ea,eb]
 ·simp [jU,ho] at ht
  split at ht
  case isFalse=>exact absurd ht (by simp)
  rename_i hg
  simp only [jC.go.injEq] at ht
  subst ht
  refine key _ rfl ?_ ?_ rfl rfl rfl rfl rfl
  ·have:({alu (qI m i) t with at_:=gM (qI m i) t}:uF)=⟨t.n,(qI m i).regs,(qI m i).view,(qI m i).st⟩:=by simp [alu,gM,ho]
   rw [this]
   exact hc.move _ _ _ (by omega)
  ·simp [alu,ho]
 ·simp [jU,ho] at ht
  split at ht
  case isFalse=>exact absurd ht (by simp)
  rename_i hg
  simp only [jC.go.injEq] at ht
  subst ht
  refine key _ rfl ?_ ?_ rfl rfl rfl rfl rfl
  ·have:({alu (qI m i) t with at_:=gM (qI m i) t}:uF)=⟨if s.get t.a=0 then t.n else (qI m i).at_+1,(qI m i).regs,(qI m i).view,(qI m i).st⟩:=by simp [alu,gM,ho,ea]
   rw [this]
   refine hc.move _ _ _ ?_
   split<;>omega
  ·simp [alu,ho]
theorem rW (cs:List (List wZ)) (view:List Int) (cell:Nat) (v:Int) (go:Bool):store cs view cell v go=(cs.set cell (cs.getD cell []++[⟨v,if go then view.set cell ((cs.getD cell []).length:Int) else (qZo 24 0).set cell ((cs.getD cell []).length:Int)⟩]),view.set cell ((cs.getD cell []).length:Int)):=rfl
theorem oI {m:qR} {i:Nat} {late:Int} {c:Nat} (h0:eJ m i=0) (hm:eK (qQ m i).op=true) (hcell:bC (qI m i) (qQ m i)=c) (hc:c<24) (hn:(qI m i).at_+1<((m.codes.getD i []).length:Int)) :
  yX m ⟨i,late⟩=(dJ {m with mem:=⟨(dG m.mem.cells (qI m i) (qQ m i) c late).1⟩} i {(dG m.mem.cells (qI m i) (qQ m i) c late).2 with at_:=(qI m i).at_+1},0):=by
 have h12:(qQ m i).op≠12:=by intro e; rw [e] at hm; exact absurd hm (by decide)
 have h13:(qQ m i).op≠13:=by intro e; rw [e] at hm; exact absurd hm (by decide)
 rw [mX h0]
 unfold mdo
 simp only
 rw [if_neg h12,if_neg h13,hm,if_pos rfl,hcell]
 have hw:qV (c:Int) 0 23=true:=by rw [qK]; omega
 rw [hw,if_pos rfl,wBl]
 unfold qGj
 simp only
 rw [if_neg (by omega)]
theorem qMs {m:qR} {i:Nat} {f:Int} {b:Nat} {s:So} {c:Nat} {v:Int} (hM:MOk m) (hi:i<m.cores.length) (hc:lQ (qI m i) f s)
  (hd:qBe m.mem.cells b s∧fY m.mem.cells b s.dat.length (qI m i).view) (ho:(qQ m i).op=5) (hcell:bC (qI m i) (qQ m i)=c) (h1:b+1≤c) (h2:c<b+4+s.dat.length) (h24:b+4+s.dat.length≤24) (hv:jH m.mem.cells c=v)
  (hn:f+(s.k+1)<((m.codes.getD i []).length:Int)) :∃m',(∀late,yX m ⟨i,late⟩=(m',0))∧qA0 m m' i f b s ((s.put (qQ m i).r v).to (s.k+1)):=by
 obtain ⟨r0,r1,_⟩:=zZ (cG hM hi)
 have hm:eK (qQ m i).op=true:=by rw [ho]; rfl
 have hat:=hc.at_
 have hK:=hM.core i hi
 have h0:eJ m i=0:=by
  rw [cL hi,if_neg (by rw [hc.st]; simp [ho]),ho]
  simp
 have hcv:(qI m i).view.getD c 0=((m.mem.cells.getD c []).length:Int)-1:=by
  have:=hd.2 (c-b) (by omega) (by omega)
  rw [show b+(c-b)=c by omega] at this
  exact this
 have hac :∀late,dG m.mem.cells (qI m i) (qQ m i) c late=(m.mem.cells,⟨(qI m i).at_,(qI m i).regs.set (qQ m i).r.toNat v,(qI m i).view,(qI m i).st⟩):=by
  intro late
  unfold dG
  rw [if_pos ho]
  simp only
  rw [qRw hM.mem hK.view (by omega) hcv,hv]
 obtain ⟨p1,p2,p3,p4,p5,p6⟩:=So.put_dat s (qQ m i).r v
 refine ⟨dJ m i ⟨(qI m i).at_+1,(qI m i).regs.set (qQ m i).r.toNat v,(qI m i).view,(qI m i).st⟩,fun late=>?_,?_⟩
 ·rw [oI h0 hm hcell (by omega) (by omega),hac late]
 ·exact qFq hi (hc.put r0 r1 _ _ _ (by rw [hat]; push_cast; omega)) rfl p1 p2 p3 p4 p5 (fun _=>hd)
theorem zQ {cs:List (List wZ)} {c d:Nat} (x:List wZ) (hc:c<cs.length):(cs.set c x).getD d []=if d=c then x else cs.getD d []:=uH _ _ _ _ _ hc
theorem qK8 {m:qR} {i:Nat} {f:Int} {b:Nat} {s s':So} {c:Nat} (hM:MOk m) (hi:i<m.cores.length) (hc:lQ (qI m i) f s) (hh:s.hold=true)
  (hd:qBe m.mem.cells b s∧fY m.mem.cells b s.dat.length (qI m i).view) (ho:(qQ m i).op=6) (hcell:bC (qI m i) (qQ m i)=c) (h1:b+1≤c) (h2:c<b+4+s.dat.length) (h24:b+4+s.dat.length≤24)
  (hn:f+(s.k+1)<((m.codes.getD i []).length:Int)) (hlow:s'.low=s.low∧s'.t4=s.t4∧s'.t5=s.t5∧s'.t6=s.t6∧s'.t7=s.t7∧s'.k=s.k+1∧s'.hold=true) (hdl:s'.dat.length=s.dat.length)
  (hf:s'.fst=if c=b+1 then s.get (qQ m i).b else s.fst) (hct:s'.cnt=if c=b+2 then s.get (qQ m i).b else s.cnt) (hcl:s'.cls=if c=b+3 then s.get (qQ m i).b else s.cls)
  (hdt :∀j:Nat,j<s.dat.length→s'.dat.getD j 0=if c=b+4+j then s.get (qQ m i).b else s.dat.getD j 0) :
  (∀late,yX m ⟨i,late⟩=(m,3))∨∃m',(∀late,yX m ⟨i,late⟩=(m',0))∧qA0 m m' i f b s s':=by
 obtain ⟨r0,r1,b0,b1,_⟩:=zZ (cG hM hi)
 have hm:eK (qQ m i).op=true:=by rw [ho]; rfl
 have hat:=hc.at_
 have hK:=hM.core i hi
 have hlen:=hM.mem.len
 rcases qAq hi hc.st hm with h3 | ⟨h0,hroom⟩
 ·exact .inl fun late=>cV h3
 right
 have hvb:=hc.get b0 b1
 have hac :∀late,dG m.mem.cells (qI m i) (qQ m i) c late=(m.mem.cells.set c (m.mem.cells.getD c []++[⟨s.get (qQ m i).b,(qZo 24 0).set c ((m.mem.cells.getD c []).length:Int)⟩]),{qI m i with view:=(qI m i).view.set c ((m.mem.cells.getD c []).length:Int)}):=by
  intro late
  unfold dG
  rw [if_neg (by omega),if_neg (by omega)]
  simp only
  rw [rW,hvb,ho]
  rfl
 have hcl24:c<m.mem.cells.length:=by omega
 refine ⟨dJ {m with mem:=⟨m.mem.cells.set c (m.mem.cells.getD c []++[⟨s.get (qQ m i).b,(qZo 24 0).set c ((m.mem.cells.getD c []).length:Int)⟩])⟩} i ⟨(qI m i).at_+1,(qI m i).regs,(qI m i).view.set c ((m.mem.cells.getD c []).length:Int),(qI m i).st⟩,fun late=>?_,?_⟩
 ·rw [oI h0 hm hcell (by omega) (by omega),hac late]
 obtain ⟨l1,l2,l3,l4,l5,l6,l7⟩:=hlow
 have hvl:(qI m i).view.length=24:=hK.view.1
 have hself:=vI {m with mem:=⟨m.mem.cells.set c (m.mem.cells.getD c []++[⟨s.get (qQ m i).b,(qZo 24 0).set c ((m.mem.cells.getD c []).length:Int)⟩])⟩} i ⟨(qI m i).at_+1,(qI m i).regs,(qI m i).view.set c ((m.mem.cells.getD c []).length:Int),(qI m i).st⟩ hi
 refine ⟨rfl,rfl,iQ _ _ _,fun j hj=>by rw [aR _ _ _ _ hj]; rfl,?_,hdl,?_,?_,?_,?_⟩
 ·rw [hself]
  exact ⟨by rw [l6,hat]; push_cast; omega,by rw [l1,l2,l3,l4,l5]; exact hc.regs,by rw [l1]; exact hc.low,hc.st⟩
 ·intro _
  refine ⟨hh,?_,?_,?_⟩
  ·obtain ⟨d1,d2,d3,d4⟩:=hd.1
   refine ⟨?_,?_,?_,fun j hj=>?_⟩
   ·show jH (m.mem.cells.set c _) (b+1)=_
    rw [bR _ hcl24,hf,d1]
    simp only [eq_comm]
   ·show jH (m.mem.cells.set c _) (b+2)=_
    rw [bR _ hcl24,hct,d2]
    simp only [eq_comm]
   ·show jH (m.mem.cells.set c _) (b+3)=_
    rw [bR _ hcl24,hcl,d3]
    simp only [eq_comm]
   ·show jH (m.mem.cells.set c _) (b+4+j)=_
    rw [bR _ hcl24,hdt j (by omega),d4 j (by omega)]
    simp only [eq_comm]
  ·rw [hself]
   intro j hj1 hj2
   show ((qI m i).view.set c _).getD (b+j) 0=(((m.mem.cells.set c _).getD (b+j) []).length:Int)-1
   rw [uH _ _ _ _ _ (by omega),zQ _ hcl24]
   by_cases e:b+j=c
   ·rw [if_pos e,if_pos e]
    simp
   ·rw [if_neg e,if_neg e]
    exact hd.2 j hj1 hj2
  ·show (m.mem.cells.set c _).getD b []=_
   rw [zQ _ hcl24,if_neg (by omega)]
 ·intro d hd'
  show (m.mem.cells.set c _).getD d []=_
  rw [zQ _ hcl24,if_neg (by omega)]
 ·intro h
  rw [hh] at h
  exact absurd h (by decide)
 ·intro _ h
  rw [l7] at h
  exact absurd h (by decide)
theorem qOs {m:qR} {i:Nat} {f:Int} {b:Nat} {s s':So} (hM:MOk m) (hi:i<m.cores.length) (hc:lQ (qI m i) f s) (hh:s.hold=true)
  (hd:qBe m.mem.cells b s∧fY m.mem.cells b s.dat.length (qI m i).view) (ho:(qQ m i).op=7) (hcell:bC (qI m i) (qQ m i)=b) (h24:b+4+s.dat.length≤24) (hz:s.get (qQ m i).b=0)
  (hn:f+(s.k+1)<((m.codes.getD i []).length:Int)) (hs:s' = {s with hold:=false}.to (s.k+1)) :
  (∀late,yX m ⟨i,late⟩=(m,3))∨∃m',(∀late,yX m ⟨i,late⟩=(m',0))∧qA0 m m' i f b s s':=by
 obtain ⟨r0,r1,b0,b1,_⟩:=zZ (cG hM hi)
 have hm:eK (qQ m i).op=true:=by rw [ho]; rfl
 have hat:=hc.at_
 have hK:=hM.core i hi
 have hlen:=hM.mem.len
 rcases qAq hi hc.st hm with h3 | ⟨h0,hroom⟩
 ·exact .inl fun late=>cV h3
 right
 have hvb:=hc.get b0 b1
 rw [hz] at hvb
 have hac :∀late,dG m.mem.cells (qI m i) (qQ m i) b late=(m.mem.cells.set b (m.mem.cells.getD b []++[⟨0,(qI m i).view.set b ((m.mem.cells.getD b []).length:Int)⟩]),{qI m i with view:=(qI m i).view.set b ((m.mem.cells.getD b []).length:Int)}):=by
  intro late
  unfold dG
  rw [if_neg (by omega),if_neg (by omega)]
  simp only
  rw [rW,hvb,ho]
  rfl
 have hcl24:b<m.mem.cells.length:=by omega
 refine ⟨dJ {m with mem:=⟨m.mem.cells.set b (m.mem.cells.getD b []++[⟨0,(qI m i).view.set b ((m.mem.cells.getD b []).length:Int)⟩])⟩} i ⟨(qI m i).at_+1,(qI m i).regs,(qI m i).view.set b ((m.mem.cells.getD b []).length:Int),(qI m i).st⟩,fun late=>?_,?_⟩
 ·rw [oI h0 hm hcell (by omega) (by omega),hac late]
 subst hs
 have hvl:(qI m i).view.length=24:=hK.view.1
 have hself:=vI {m with mem:=⟨m.mem.cells.set b (m.mem.cells.getD b []++[⟨0,(qI m i).view.set b ((m.mem.cells.getD b []).length:Int)⟩])⟩} i ⟨(qI m i).at_+1,(qI m i).regs,(qI m i).view.set b ((m.mem.cells.getD b []).length:Int),(qI m i).st⟩ hi
 refine ⟨rfl,rfl,iQ _ _ _,fun j hj=>by rw [aR _ _ _ _ hj]; rfl,?_,rfl,?_,?_,?_,?_⟩
 ·rw [hself]
  exact ⟨by rw [hat]; simp only [So.to]; push_cast; omega,hc.regs,hc.low,hc.st⟩
 ·intro h
  exact absurd h (by simp [So.to])
 ·intro d hd'
  show (m.mem.cells.set b _).getD d []=_
  rw [zQ _ hcl24,if_neg (by omega)]
 ·intro h
  rw [hh] at h
  exact absurd h (by decide)
 ·intro _ _
  refine ⟨?_,?_,?_⟩
  ·show jH (m.mem.cells.set b _) b=0
   rw [bR _ hcl24,if_pos rfl]
  ·obtain ⟨d1,d2,d3,d4⟩:=hd.1
   refine ⟨?_,?_,?_,fun j hj=>?_⟩
   ·show jH (m.mem.cells.set b _) (b+1)=_
    rw [bR _ hcl24,if_neg (by omega),d1]
    rfl
   ·show jH (m.mem.cells.set b _) (b+2)=_
    rw [bR _ hcl24,if_neg (by omega),d2]
    rfl
   ·show jH (m.mem.cells.set b _) (b+3)=_
    rw [bR _ hcl24,if_neg (by omega),d3]
    rfl
   ·show jH (m.mem.cells.set b _) (b+4+j)=_
    rw [bR _ hcl24,if_neg (by omega)]
    exact d4 j hj
  ·show fY (m.mem.cells.set b _) b _ ((((m.mem.cells.set b _).getD b []).getD (((m.mem.cells.set b _).getD b []).length-1) default).view)
   rw [zQ _ hcl24,if_pos rfl]
   have e:((m.mem.cells.getD b []++[(⟨0,(qI m i).view.set b ((m.mem.cells.getD b []).length:Int)⟩:wZ)]).getD ((m.mem.cells.getD b []++[(⟨0,(qI m i).view.set b ((m.mem.cells.getD b []).length:Int)⟩:wZ)]).length-1) default)=⟨0,(qI m i).view.set b ((m.mem.cells.getD b []).length:Int)⟩:=by simp [qZw]
   rw [e]
   intro j hj1 hj2
   rw [uH _ _ _ _ _ (by omega),if_neg (by omega),zQ _ hcl24,if_neg (by omega)]
   exact hd.2 j hj1 hj2
theorem qOo {K:uF} {t:yV} (ha:t.a=-1):bC K t=t.n:=by
 unfold bC
 rw [if_neg (by omega)]
theorem qOn {K:uF} {t:yV} (h8:t.op≠8) (ha:0≤t.a) (h0:0≤t.n+rg K t.a) (h1:t.n+rg K t.a<2^63):bC K t=t.n+rg K t.a:=by
 unfold bC
 rw [if_pos ⟨h8,ha⟩]
 exact yG (by omega) h1
theorem qYh {m:qR} {i:Nat} {f:Int} {b:Nat} {s s':So} (hM:MOk m) (hi:i<m.cores.length) (hc:lQ (qI m i) f s)
  (hd:s.hold=true→qBe m.mem.cells b s∧fY m.mem.cells b s.dat.length (qI m i).view) (h24:b+4+s.dat.length≤24) (ht:jU f b (qQ m i) s=.go s') (hn:f+s'.k<((m.codes.getD i []).length:Int)) (hf:0≤f) :
  (∀late,yX m ⟨i,late⟩=(m,3))∨∃m',(∀late,yX m ⟨i,late⟩=(m',0))∧qA0 m m' i f b s s':=by
 obtain ⟨r0,r1,b0,b1,o0,o1,ha⟩:=zZ (cG hM hi)
 by_cases hop:(qQ m i).op≤4∨(qQ m i).op=10∨(qQ m i).op=11
 ·exact .inr (qK9 hM hi hc hd ht hn hf hop)
 have hga:=fun h=>hc.get (r:=(qQ m i).a) h (by omega)
 have hlo:=@qMs m i f b s
 have hso:=@qK8 m i f b s s'
 have hle:=@qOs m i f b s s'
 have hcr:=@qOn (qI m i) (qQ m i)
 have hca:=@qOo (qI m i) (qQ m i)
 unfold jU at ht
 rw [if_neg (by omega),if_neg (by omega),if_neg (by omega),if_neg (by omega),if_neg (by omega),if_neg (by omega)] at ht
 split at ht
 ·exact absurd ht (by simp)
 split at ht
 ·exact absurd ht (by simp)
 rename_i h13 hh
 have hh:s.hold=true:=by simpa using hh
 have hd:=hd hh
 unfold vN at ht
 split at ht
 ·rename_i h5
  unfold gL at ht
  split at ht
  ·rename_i h1
   have hcell:=hca h1
   have go :∀(c:Nat) (v:Int),(qQ m i).n=c→b+1≤c→c<b+4+s.dat.length→jH m.mem.cells c=v→s'=(s.put (qQ m i).r v).to (s.k+1)→(∀late,yX m ⟨i,late⟩=(m,3))∨∃m',(∀late,yX m ⟨i,late⟩=(m',0))∧qA0 m m' i f b s s':=by
    intro c v e1 e2 e3 e4 e5
    subst e5
    exact .inr (hlo hM hi hc hd h5 (by rw [hcell,e1]) e2 e3 h24 e4 (by simpa [So.to] using hn))
   repeat' split at ht
   ·rename_i e
    simp only [jC.go.injEq] at ht
    exact go (b+1) s.fst (by rw [e]; push_cast; rfl) (by omega) (by omega) hd.1.fst ht.symm
   ·rename_i _ e
    simp only [jC.go.injEq] at ht
    exact go (b+2) s.cnt (by rw [e]; push_cast; rfl) (by omega) (by omega) hd.1.cnt ht.symm
   ·rename_i _ _ e
    simp only [jC.go.injEq] at ht
    exact go (b+3) s.cls (by rw [e]; push_cast; rfl) (by omega) (by omega) hd.1.cls ht.symm
   ·exact absurd ht (by simp)
  ·split at ht
   ·rename_i hne hx
    obtain ⟨x1,x2,x3,x4⟩:=hx
    simp only [jC.go.injEq] at ht
    subst ht
    have hg:=hga x2
    have hcell:bC (qI m i) (qQ m i)=((b+4+(s.get (qQ m i).a).toNat:Nat):Int):=by
     rw [hcr (by omega) x2 (by rw [hg]; omega) (by rw [hg]; omega),hg]
     omega
    exact .inr (hlo hM hi hc hd h5 hcell (by omega) (by omega) h24 (hd.1.dat _ x4) (by simpa [So.to] using hn))
   ·exact absurd ht (by simp)
 split at ht
 ·rename_i h5 h6
  unfold gK at ht
  split at ht
  ·rename_i h1
   have hcell:=hca h1
   repeat' split at ht
   ·rename_i e
    simp only [jC.go.injEq] at ht
    subst ht
    refine hso (c:=b+1) hM hi hc hh hd h6 (by rw [hcell,e]; push_cast; rfl) (by omega) (by omega) h24 (by simpa [So.to] using hn) ⟨rfl,rfl,rfl,rfl,rfl,rfl,hh⟩ rfl ?_ ?_ ?_ (fun j hj=>?_)
    ·rw [if_pos rfl]; rfl
    ·rw [if_neg (by omega)]; rfl
    ·rw [if_neg (by omega)]; rfl
    ·rw [if_neg (by omega)]; rfl
   ·rename_i _ e
    simp only [jC.go.injEq] at ht
    subst ht
    refine hso (c:=b+2) hM hi hc hh hd h6 (by rw [hcell,e]; push_cast; rfl) (by omega) (by omega) h24 (by simpa [So.to] using hn) ⟨rfl,rfl,rfl,rfl,rfl,rfl,hh⟩ rfl ?_ ?_ ?_ (fun j hj=>?_)
    ·rw [if_neg (by omega)]; rfl
    ·rw [if_pos rfl]; rfl
    ·rw [if_neg (by omega)]; rfl
    ·rw [if_neg (by omega)]; rfl
   ·rename_i _ _ e
    simp only [jC.go.injEq] at ht
    subst ht
    refine hso (c:=b+3) hM hi hc hh hd h6 (by rw [hcell,e]; push_cast; rfl) (by omega) (by omega) h24 (by simpa [So.to] using hn) ⟨rfl,rfl,rfl,rfl,rfl,rfl,hh⟩ rfl ?_ ?_ ?_ (fun j hj=>?_)
    ·rw [if_neg (by omega)]; rfl
    ·rw [if_neg (by omega)]; rfl
    ·rw [if_pos rfl]; rfl
    ·rw [if_neg (by omega)]; rfl
   ·exact absurd ht (by simp)
  ·split at ht
   ·rename_i hne hx
    obtain ⟨x1,x2,x3,x4⟩:=hx
    simp only [jC.go.injEq] at ht
    subst ht
    have hg:=hga x2
    have hcell:bC (qI m i) (qQ m i)=((b+4+(s.get (qQ m i).a).toNat:Nat):Int):=by
     rw [hcr (by omega) x2 (by rw [hg]; omega) (by rw [hg]; omega),hg]
     omega
    refine hso hM hi hc hh hd h6 hcell (by omega) (by omega) h24 (by simpa [So.to] using hn) ⟨rfl,rfl,rfl,rfl,rfl,rfl,hh⟩ (by simp [So.to]) ?_ ?_ ?_ (fun j hj=>?_)
    ·rw [if_neg (by omega)]; rfl
    ·rw [if_neg (by omega)]; rfl
    ·rw [if_neg (by omega)]; rfl
    ·show (s.dat.set _ _).getD j 0=_
     rw [iP x4]
     by_cases e:j=(s.get (qQ m i).a).toNat
     ·rw [if_pos e,if_pos (by omega)]
     ·rw [if_neg e,if_neg (by omega)]
   ·exact absurd ht (by simp)
 split at ht
 ·rename_i h5 h6 h7
  unfold uK at ht
  split at ht
  ·rename_i hx
   simp only [jC.go.injEq] at ht
   exact hle hM hi hc hh hd h7 (by rw [hca hx.1,hx.2.1]) h24 hx.2.2 (by rw [←ht] at hn; simpa [So.to] using hn) ht.symm
  ·exact absurd ht (by simp)
 ·exact absurd ht (by simp)
def body (p:wU) (i:Nat):List Ins:=p.bods.getD i []
def thd (s:qS) (i:Nat):yJ:=s.ths.getD i default
def plc (p:wU) (i j:Nat):Ins:=(body p i).getD j default
def frm (p:wU) (i j:Nat):Int:=szB ((body p i).take j)
def chn (s:qS) (n:Nat):jS:=s.chs.getD n default
def eW (x:Ins):Prop:=5≤x.op∧x.op≤9
inductive tZ (p:wU) (m:qR) (s:qS) (own:Nat→Option Nat) (i:Nat):Prop where
 | over (h:(qI m i).st≠0) (hs:(thd s i).st=(qI m i).st) (ho :∀n,own n≠some i)
 | out (k:Nat) (h:(qI m i).st=0) (hs:(thd s i).st=0) (ha:(qI m i).at_=frm p i (thd s i).at_.toNat+k) (hr:(qI m i).regs.take 4=(thd s i).regs)
   (hk:k=0∨(eW (plc p i (thd s i).at_.toNat)∧(k=1∧(qI m i).regs.getD 7 0=1∨k=2∧(qI m i).regs.getD 6 0≠0∨k=3))) (ho :∀n,own n≠some i)
 | inner (j n N:Nat) (a e:So) (fl:Bool) (hj:j<(body p i).length) (hx:eW (plc p i j)) (hn:(plc p i j).n=n) (hc:lQ (qI m i) (frm p i j) a) (hst:a.settled (wI (plc p i j)).toNat=false) (hk1:1≤a.k)
   (hN:N+a.k≤(wI (plc p i j)).toNat) (hs:xK (frm p i j) (bs p.caps n) (vD (frm p i j) (bs p.caps n) (cp p.caps n) (plc p i j)) N a=some (e,fl)) (hd:a.dat.length=cp p.caps n)
   (hf:fl=true→(thd s i).st=2) (hg:fl=false→(thd s i).st=0∧(thd s i).at_=(if e.k=0 then (j:Int) else j+1)∧e.low=(thd s i).regs)
   (hh:a.hold=true→own n=some i∧qBe m.mem.cells (bs p.caps n) a∧fY m.mem.cells (bs p.caps n) (cp p.caps n) (qI m i).view∧xW e (chn s n))
   (ho :∀n',own n'=some i→n'=n∧a.hold=true)
structure qG1 (p:wU) (m:qR) (s:qS) (own:Nat→Option Nat) (n:Nat):Prop where
 free:own n=none→jH m.mem.cells (bs p.caps n)=0∧fY m.mem.cells (bs p.caps n) (cp p.caps n) ((m.mem.cells.getD (bs p.caps n) []).getD ((m.mem.cells.getD (bs p.caps n) []).length-1) default).view∧∃a:So,a.dat.length=cp p.caps n∧qBe m.mem.cells (bs p.caps n) a∧xW a (chn s n)
 held :∀i,own n=some i→i<m.cores.length∧jH m.mem.cells (bs p.caps n)=1
structure Inv (p:wU) (m:qR) (s:qS):Prop where
 mok:MOk m
 codes:m.codes=p.bods.map (comp p.caps)
 prog:vC p=true
 lie:zU p.caps=true
 src:qY p s=true
 tr:m.tr=s.tr
 own :∃own:Nat→Option Nat,(∀i,i<m.cores.length→tZ p m s own i)∧(∀n,n<p.caps.length→qG1 p m s own n)
theorem tZ.frame {p:wU} {m m':qR} {s s':qS} {own own':Nat→Option Nat} {i:Nat} (h:tZ p m s own i) (h1:qI m' i=qI m i) (h2:thd s' i=thd s i) (h3 :∀n,own' n=some i↔own n=some i)
  (h4 :∀n,own n=some i→(∀c,bs p.caps n+1≤c→c<bs p.caps n+4+cp p.caps n→m'.mem.cells.getD c []=m.mem.cells.getD c [])∧chn s' n=chn s n):tZ p m' s' own' i:=by
 cases h with
 | over h hs ho=>exact .over (by rw [h1]; exact h) (by rw [h1,h2]; exact hs) (fun n e=>ho n ((h3 n).1 e))
 | out k h hs ha hr hk ho=>exact .out k (by rw [h1]; exact h) (by rw [h2]; exact hs) (by rw [h1,h2]; exact ha) (by rw [h1,h2]; exact hr) (by rw [h1,h2]; exact hk) (fun n e=>ho n ((h3 n).1 e))
 | inner j n N a e fl hj hx hn hc hst hk1 hN hs hd hf hg hh ho =>
  refine .inner j n N a e fl hj hx hn (by rw [h1]; exact hc) hst hk1 hN hs hd (by rw [h2]; exact hf) (by rw [h2]; exact hg) (fun hhold=>?_) (fun n' e=>ho n' ((h3 n').1 e))
  obtain ⟨a1,a2,a3,a4⟩:=hh hhold
  obtain ⟨f1,f2⟩:=h4 n a1
  have hl :∀c,bs p.caps n+1≤c→c<bs p.caps n+4+cp p.caps n→jH m'.mem.cells c=jH m.mem.cells c:=fun c hc1 hc2=>by unfold jH; rw [f1 c hc1 hc2]
  refine ⟨(h3 n).2 a1,⟨?_,?_,?_,fun q hq=>?_⟩,fun q hq1 hq2=>?_,by rw [f2]; exact a4⟩
  ·rw [hl _ (by omega) (by omega)]; exact a2.fst
  ·rw [hl _ (by omega) (by omega)]; exact a2.cnt
  ·rw [hl _ (by omega) (by omega)]; exact a2.cls
  ·rw [hl _ (by omega) (by omega)]; exact a2.dat q hq
  ·rw [h1,f1 _ (by omega) (by omega)]; exact a3 q hq1 hq2
theorem qG1.frame {p:wU} {m m':qR} {s s':qS} {own own':Nat→Option Nat} {n:Nat} (h:qG1 p m s own n) (h1:own' n=own n) (h2 :∀c,bs p.caps n≤c→c<bs p.caps n+4+cp p.caps n→own n=none→m'.mem.cells.getD c []=m.mem.cells.getD c [])
  (h3 :∀i,own n=some i→jH m'.mem.cells (bs p.caps n)=1) (h4:own n=none→chn s' n=chn s n) (h5:m'.cores.length=m.cores.length):qG1 p m' s' own' n:=by
 refine ⟨fun e=>?_,fun i e=>?_⟩
 ·rw [h1] at e
  obtain ⟨a1,a2,a,a3,a4,a5⟩:=h.free e
  have hg :∀c,bs p.caps n≤c→c<bs p.caps n+4+cp p.caps n→m'.mem.cells.getD c []=m.mem.cells.getD c []:=fun c h6 h7=>h2 c h6 h7 e
  have hl :∀c,bs p.caps n≤c→c<bs p.caps n+4+cp p.caps n→jH m'.mem.cells c=jH m.mem.cells c:=fun c hc1 hc2=>by unfold jH; rw [hg c hc1 hc2]
  refine ⟨by rw [hl _ (by omega) (by omega)]; exact a1,?_,a,a3,⟨?_,?_,?_,fun q hq=>?_⟩,by rw [h4 e]; exact a5⟩
  ·rw [hg _ (by omega) (by omega)]
   intro q hq1 hq2
   rw [hg _ (by omega) (by omega)]
   exact a2 q hq1 hq2
  ·rw [hl _ (by omega) (by omega)]; exact a4.fst
  ·rw [hl _ (by omega) (by omega)]; exact a4.cnt
  ·rw [hl _ (by omega) (by omega)]; exact a4.cls
  ·rw [hl _ (by omega) (by omega)]; exact a4.dat q hq
 ·rw [h1] at e
  exact ⟨by rw [h5]; exact (h.held i e).1,h3 i e⟩
structure Fix (p:wU) (m:qR) (s:qS) (i:Nat):Prop where
 hi:i<m.cores.length
 hb:i<p.bods.length
 ht:i<s.ths.length
 bok:wJ (body p i) p.caps.length=true
 code:m.codes.getD i []=comp p.caps (body p i)
 regs:(thd s i).regs.length=4
 at0:0≤(thd s i).at_
 at1:(thd s i).at_.toNat<(body p i).length
 st:0≤(thd s i).st∧(thd s i).st≤2
theorem Inv.fix {p:wU} {m:qR} {s:qS} (h:Inv p m s) {i:Nat} (hi:i<m.cores.length):Fix p m s i:=by
 have hl:m.codes.length=p.bods.length:=by rw [h.codes,wBx]
 have hc:=h.mok.cores
 have hs:=(yS p s).1 h.src
 have ht:i<s.ths.length:=by omega
 have ha:=tW h.src ht
 have hth:=hs.2.2.2.2.1 i ht
 simp only [jZ,qZu,decide_eq_true_eq,qK] at hth
 refine ⟨hi,by omega,ht,(mM h.prog).2.2.2.2 _ (yO p.bods i [] (by omega)),?_,ha.regs,ha.at0,ha.at1,by unfold thd; omega⟩
 rw [h.codes]
 unfold body
 simp [qZw,show i<p.bods.length by omega]
theorem Fix.ins {p:wU} {m:qR} {s:qS} {i:Nat} (F:Fix p m s i) {j:Nat} (hj:j<(body p i).length):jE (plc p i j) (body p i).length p.caps.length=true:=qFl F.bok j hj
theorem Fix.op {p:wU} {m:qR} {s:qS} {i:Nat} (F:Fix p m s i) {j:Nat} (hj:j<(body p i).length):1≤(plc p i j).op∧(plc p i j).op≤13∧Op4 (plc p i j):=by
 obtain ⟨a,b,c,d⟩:=nI (F.ins hj)
 rw [qK] at a b c d
 exact ⟨a.1,a.2,by omega,by omega,by omega,by omega,by omega,by omega⟩
theorem tF {p:wU} {i j:Nat} (hj:j<(body p i).length):frm p i (j+1)=frm p i j+wI (plc p i j):=mB (body p i) j hj
theorem qOa (p:wU) (i j:Nat):0≤frm p i j:=(qBk (body p i) j).1
theorem Fix.last {p:wU} {m:qR} {s:qS} {i:Nat} (F:Fix p m s i) {j:Nat} (hj:j<(body p i).length) (h11:(plc p i j).op≠11) (h13:(plc p i j).op≠13):j+1<(body p i).length:=by
 have hb:=F.bok
 unfold wJ zW at hb
 simp only [qZu,wA5,decide_eq_true_eq] at hb
 have hl:=hb.2
 rcases Nat.lt_or_ge (j+1) (body p i).length with h | h
 ·exact h
 ·exfalso
  have e:(body p i).length-1=j:=by omega
  rw [e] at hl
  unfold plc at h11 h13
  omega
theorem Fix.size {p:wU} {m:qR} {s:qS} {i:Nat} (F:Fix p m s i) {j:Nat} (hj:j<(body p i).length):1≤wI (plc p i j):=by
 have:=F.op hj
 exact qJu ⟨this.1,this.2.1⟩
theorem Fix.frm_lt {p:wU} {m:qR} {s:qS} {i:Nat} (F:Fix p m s i) (hl:zU p.caps=true) {j:Nat} (hj:j<(body p i).length):frm p i j+wI (plc p i j)≤((m.codes.getD i []).length:Int):=by
 rw [F.code,qSj F.bok hl]
 rw [←tF hj]
 by_cases e:j+1=(body p i).length
 ·unfold frm
  rw [e,wBv]
  omega
 ·have:=qKx (b:=body p i) (fun q hq=>F.size hq) (j+1) (body p i).length (by omega) (qZt _)
  rw [wBv] at this
  exact Int.le_of_lt this
theorem Fix.frm_lt2 {p:wU} {m:qR} {s:qS} {i:Nat} (F:Fix p m s i) (hl:zU p.caps=true) {j:Nat} (hj:j<(body p i).length):frm p i j<((m.codes.getD i []).length:Int):=by
 have:=F.frm_lt hl hj
 have:=F.size hj
 omega
theorem Fix.step {p:wU} {m:qR} {s:qS} {i:Nat} (F:Fix p m s i) (hl:zU p.caps=true) {j k:Nat} (hj:j<(body p i).length) (hk:(k:Int)<wI (plc p i j)) (ha:(qI m i).at_=frm p i j+k) :
  qQ m i=(tJ p.caps (plc p i j) (frm p i j) (gX (body p i))).getD k default∧dK (body p i) 0 0 (qI m i).at_=((j:Int),decide (k=0)):=by
 have h0:=qOa p i j
 constructor
 ·unfold qQ
  rw [F.code]
  have:=(qVc F.bok hl hj hk).2
  rw [show (qI m i).at_.toNat=(szB ((body p i).take j)).toNat+k by rw [ha]; unfold frm at h0⊢; omega]
  exact this
 ·rw [qE8 (body p i) 0 0 (qI m i).at_ j hj (by rw [ha]; unfold frm; omega) (by rw [ha,mB _ _ hj]; unfold frm; unfold plc at hk; omega)]
  refine Prod.ext (by simp) ?_
  show decide (_=_)=_
  rw [ha]
  congr 1
  apply propext
  unfold frm
  constructor<;>intro e<;>omega
theorem Fix.chan {p:wU} {m:qR} {s:qS} {i:Nat} (F:Fix p m s i) (hl:zU p.caps=true) {j:Nat} (hj:j<(body p i).length) (hx:eW (plc p i j)) :
  ∃n:Nat,(plc p i j).n=n∧n<p.caps.length∧tJ p.caps (plc p i j) (frm p i j) (gX (body p i))=vD (frm p i j) (bs p.caps n) (cp p.caps n) (plc p i j)∧((vD (frm p i j) (bs p.caps n) (cp p.caps n) (plc p i j)).length:Int)=wI (plc p i j):=by
 have hin:=F.ins hj
 obtain ⟨n0,n1⟩:=qEv hin hx.1 hx.2
 obtain ⟨n,hn⟩:=wBw n0
 have hnl:n<p.caps.length:=by omega
 obtain ⟨e1,e2,_,_,_⟩:=xM hl hnl
 have he:tJ p.caps (plc p i j) (frm p i j) (gX (body p i))=vD (frm p i j) (bs p.caps n) (cp p.caps n) (plc p i j):=by
  unfold tJ vD
  rw [show (gX (body p i)).length=(body p i).length from aB _ _,hin,if_pos rfl,qK.2 hx,if_pos rfl,hn,e1,if_neg (by omega),wBl,e2]
 refine ⟨n,hn,hnl,he,?_⟩
 rw [←he]
 exact qD9 F.bok hl j hj _
theorem Fix.commits {p:wU} {m:qR} {s:qS} {i:Nat} (F:Fix p m s i) (hl:zU p.caps=true) {j k:Nat} (hj:j<(body p i).length) (hk:(k:Int)<wI (plc p i j)) (ha:(qI m i).at_=frm p i j+k) (t:yV) (regs:List Int) :
  iY p t regs i (qI m i).at_=((decide (t.op=8)&&qV t.r 0 (regs.length-1)&&decide (regs.getD t.r.toNat 0=0))||decide (wI (plc p i j)=1)):=by
 have hp:=(F.step hl hj hk ha).2
 have hb:=F.hb
 unfold iY
 have d:decide ((i:Int)<(p.bods.length:Int))=true:=by simp; exact hb
 rw [d,wBl]
 show (true&&decide (0≤(dK (body p i) 0 0 (qI m i).at_).1)&&_)=_
 rw [show p.bods.getD i []=body p i from rfl,hp]
 simp only [wBl]
 have d2:decide (0≤(j:Int))=true:=by simp
 rw [d2]
 rfl
theorem qK0 {p:wU} {m:qR} {s:qS} (h:Inv p m s) {n:Nat} (hn:n<p.caps.length):n<s.chs.length∧jM (chn s n)=true∧(chn s n).cap=cp p.caps n:=by
 have hs:=(yS p s).1 h.src
 have hl:n<s.chs.length:=by omega
 obtain ⟨a,b⟩:=hs.2.2.2.2.2 n hl
 exact ⟨hl,a,by unfold chn; rw [b]; exact (xM h.lie hn).2.1⟩
theorem Fix.one {p:wU} {m:qR} {s:qS} {i:Nat} (F:Fix p m s i) (hl:zU p.caps=true) {j:Nat} (hj:j<(body p i).length) (hx :¬eW (plc p i j)):tJ p.caps (plc p i j) (frm p i j) (gX (body p i))=[single (plc p i j) (gX (body p i))]∧wI (plc p i j)=1:=by
 have hin:=F.ins hj
 have ho:=F.op hj
 refine ⟨?_,qJv ⟨ho.1,ho.2.1⟩ hx⟩
 unfold tJ
 rw [show (gX (body p i)).length=(body p i).length from aB _ _,hin,if_pos rfl]
 have hw:qV (plc p i j).op 5 9=false:=by
  cases h:qV (plc p i j).op 5 9
  ·rfl
  ·exact absurd (qK.1 h) hx
 rw [hw]
 rfl
theorem oB {s:qS} {i:Nat} (t:yJ) (hi:i<s.ths.length) (chs:List jS) (tr:List bK) (j:Nat):thd ⟨s.ths.set i t,chs,tr⟩ j=if j=i then t else thd s j:=by
 unfold thd
 exact fP _ _ _ _ _ hi
theorem Inv.go1 {p:wU} {m:qR} {s:qS} {own:Nat→Option Nat} {i:Nat} (h:Inv p m s) (hC :∀i,i<m.cores.length→tZ p m s own i) (hN :∀n,n<p.caps.length→qG1 p m s own n) (hi:i<m.cores.length) {K':uF} {tr':List bK} {t':yJ}
  (hm:yX m ⟨i,0⟩=({dJ m i K' with tr:=tr'},0)) (hsrc:qY p ⟨s.ths.set i t',s.chs,tr'⟩=true)
  (hci:(K'.st≠0∧t'.st=K'.st)∨(K'.st=0∧t'.st=0∧K'.at_=frm p i t'.at_.toNat∧K'.regs.take 4=t'.regs)) (hno :∀n,own n≠some i):Inv p {dJ m i K' with tr:=tr'} ⟨s.ths.set i t',s.chs,tr'⟩:=by
 have F:=h.fix hi
 have hM':MOk {dJ m i K' with tr:=tr'}:=by
  have:=mW ⟨i,0⟩ ((jV m).2 h.mok)
  rw [hm] at this
  exact (jV _).1 this
 refine ⟨hM',h.codes,h.prog,h.lie,hsrc,rfl,own,fun j hj=>?_,fun n hn=>?_⟩
 ·by_cases e:j=i
  ·subst e
   have hself:qI {dJ m j K' with tr:=tr'} j=K':=vI m j K' hi
   have ht:thd ⟨s.ths.set j t',s.chs,tr'⟩ j=t':=by rw [oB _ F.ht,if_pos rfl]
   rcases hci with ⟨c1,c2⟩ | ⟨c1,c2,c3,c4⟩
   ·exact .over (by rw [hself]; exact c1) (by rw [hself,ht]; exact c2) hno
   ·exact .out 0 (by rw [hself]; exact c1) (by rw [ht]; exact c2) (by rw [hself,ht,c3]; simp) (by rw [hself,ht]; exact c4) (.inl rfl) hno
  ·refine (hC j (by simpa [dJ] using hj)).frame (aR m i j K' e) ?_ (fun _=>Iff.rfl) (fun n _=>⟨fun _ _ _=>rfl,rfl⟩)
   rw [oB _ F.ht,if_neg e]
 ·exact (hN n hn).frame rfl (fun _ _ _ _=>rfl) (fun j e=>((hN n hn).held j e).2) (fun _=>rfl) (iQ m i K')
theorem qQv {l:List Int} {r:Int} {v:Int}:(l.set r.toNat v).take 4=(l.take 4).set r.toNat v:=by rw [List.take_set]
theorem qPr {K:uF} {th:yJ} {r:Int} (h:K.regs.take 4=th.regs) (h0:0≤r) (h1:r<4):rg K r=reg th r:=by
 unfold rg reg
 rw [←h]
 simp [qZw,List.getElem?_take,show r.toNat<4 by omega]
theorem mC {p:wU} {s:qS} {i:Nat} (hi:i<s.ths.length) (hst:(thd s i).st=0):wQ p s i=if (ins p s i).op=10∧(s.tr.length:Int)=4000 then 3 else if¬(ins p s i).op=5∧¬(ins p s i).op=6 then 0
  else if (chn s (ins p s i).n.toNat).closed=false∧(((ins p s i).op=5∧((chn s (ins p s i).n.toNat).list.length:Int)=(chn s (ins p s i).n.toNat).cap)∨((ins p s i).op=6∧((chn s (ins p s i).n.toNat).list.length:Int)=0)) then 4 else 0:=by
 unfold wQ
 have hw:qV (i:Int) 0 ((s.ths.length:Int)-1)=true:=by rw [qK]; omega
 rw [hw,if_neg (by decide),wBl]
 have hst':(s.ths.getD i default).st=0:=hst
 rw [hst']
 simp only [not_true,false_or]
 rfl
theorem Inv.single {p:wU} {m:qR} {s:qS} {own:Nat→Option Nat} {i:Nat} (h:Inv p m s) (hC :∀i,i<m.cores.length→tZ p m s own i) (hN :∀n,n<p.caps.length→qG1 p m s own n) (hi:i<m.cores.length)
  (hst:(qI m i).st=0) (hs:(thd s i).st=0) (ha:(qI m i).at_=frm p i (thd s i).at_.toNat) (hr:(qI m i).regs.take 4=(thd s i).regs) (hno :∀n,own n≠some i) (hx :¬eW (plc p i (thd s i).at_.toNat)) :
  (∀late,yX m ⟨i,late⟩=(m,3))∨∃m',(∀late,yX m ⟨i,late⟩=(m',0))∧wQ p s i=0∧Inv p m' (wN p s i):=by
 have F:=h.fix hi
 obtain ⟨j,hj⟩:=wBw F.at0
 have hjn:(thd s i).at_.toNat=j:=by rw [hj]; rfl
 have hxe:plc p i j=Go.Sep.ins p s i:=by rw [←hjn]; rfl
 have hjl:=F.at1
 rw [hjn] at ha hx hjl
 have hinx:=F.ins hjl
 obtain ⟨o1,o2,o4⟩:=F.op hjl
 have hone:=F.one h.lie hjl hx
 have hstep:=(F.step h.lie hjl (k:=0) (by rw [hone.2]; decide) (by rw [ha]; simp)).1
 rw [hone.1,List.getD_cons_zero] at hstep
 have hlast:=fun a b=>F.last hjl a b
 have hsrc:=mC (p:=p) F.ht hs
 have hcs:=@hX p s i h.src F.ht
 have htr:=h.tr
 have hfs:=tF hjl
 rw [hone.2] at hfs
 have hlt2:=fun q hq=>F.frm_lt2 h.lie (j:=q) hq
 have hjm:(plc p i j).op=11∨(plc p i j).op=12→0≤(plc p i j).n∧(plc p i j).n.toNat<(body p i).length:=fun e=>by
  have:=qM9 hinx e
  omega
 have hsg :∀q,q<(body p i).length→(gX (body p i)).getD q 0=frm p i q:=fun q hq=>qIz (body p i) _ q hq
 have hdo:wN p s i=wN p s i:=rfl
 conv at hdo=>rhs; unfold wN
 rw [←hxe] at hsrc hcs hdo
 have hth:s.ths.getD i default=thd s i:=rfl
 rw [hth,hj] at hdo
 have hbl:((p.bods.getD i []).length:Int)=(body p i).length:=rfl
 have hgo :∀(S:qS) (t:yJ) (q:Int),q<(body p i).length→vM p S i t true q=⟨S.ths.set i ⟨q,t.regs,t.st⟩,S.chs,S.tr⟩:=fun S t q hq=>by
  unfold vM
  rw [hbl,if_neg (by simp; omega)]
 generalize plc p i j=x at *
 have hcase:x.op=1∨x.op=2∨x.op=3∨x.op=4∨x.op=10∨x.op=11∨x.op=12∨x.op=13:=by unfold eW at hx; omega
 have alu :∀(v:Int),x.op≤4→(qQ m i).op≤4→Go.Sep.alu (qI m i) (qQ m i) = {qI m i with regs:=(qI m i).regs.set x.r.toNat v}→wN p s i=vM p s i (wV (thd s i) x.r v) true ((j:Int)+1)→
   ∃m',(∀late,yX m ⟨i,late⟩=(m',0))∧wQ p s i=0∧Inv p m' (wN p s i):=by
  intro v ho ho' hal hd
  have hl:=hlast (by omega) (by omega)
  have hn:gM (qI m i) (qQ m i)=(qI m i).at_+1:=by unfold gM; rw [if_neg (by omega),if_neg (by omega)]
  have hm0:eK (qQ m i).op=false:=by
   unfold eK
   have h5 :¬(qQ m i).op=5:=by omega
   have h6 :¬(qQ m i).op=6:=by omega
   have h7 :¬(qQ m i).op=7:=by omega
   have h8 :¬(qQ m i).op=8:=by omega
   simp [h5,h6,h7,h8]
  have hml:=fun late=>@eI m i late hi hst (by omega) (by omega) (by omega) hm0 (by rw [hn,ha]; have:=hlt2 (j+1) hl; omega)
  rw [hgo _ _ _ (by omega)] at hd
  have hs0:qY p (wN p s i)=true:=hcs (by omega)
  rw [hd] at hs0
  refine ⟨_,hml,by rw [hsrc,if_neg (by omega),if_pos (by omega)],?_⟩
  rw [hd]
  have:=h.go1 hC hN hi (K':={Go.Sep.alu (qI m i) (qQ m i) with at_:=gM (qI m i) (qQ m i)}) (tr':=s.tr) (t':=⟨(j:Int)+1,(thd s i).regs.set x.r.toNat v,(thd s i).st⟩) (by rw [hml 0,←htr]; rfl) hs0 (.inr ?_) hno
  ·rw [←htr] at this⊢
   exact this
  ·rw [hal,hn]
   refine ⟨hst,hs,?_,?_⟩
   ·show (qI m i).at_+1=frm p i ((j:Int)+1).toNat
    rw [show ((j:Int)+1).toNat=j+1 by omega,hfs,ha]
   ·show ((qI m i).regs.set x.r.toNat v).take 4=_
    rw [qQv,hr]
 obtain ⟨r0,r1,a0,a1,b0,b1⟩:=o4
 have ga:=qPr hr a0 a1
 have gb:=qPr hr b0 b1
 rcases hcase with ho | ho | ho | ho | ho | ho | ho | ho
 ·have ht:qQ m i=⟨1,x.r,0,0,x.n⟩:=by rw [hstep]; simp [Go.Sep.single,ho]
  exact .inr (alu x.n (by omega) (by rw [ht]; simp) (by rw [ht]; simp [Go.Sep.alu,qA8]) (by rw [hdo,if_pos ho]))
 ·have ht:qQ m i=⟨2,x.r,x.a,x.b,0⟩:=by rw [hstep]; simp [Go.Sep.single,ho]
  exact .inr (alu _ (by omega) (by rw [ht]; simp) (by rw [ht]; simp [Go.Sep.alu,qA8,ga,gb]; rfl) (by rw [hdo,if_neg (by omega),if_pos (by omega),ho]; simp [xJ]))
 ·have ht:qQ m i=⟨3,x.r,x.a,x.b,0⟩:=by rw [hstep]; simp [Go.Sep.single,ho]
  exact .inr (alu _ (by omega) (by rw [ht]; simp) (by rw [ht]; simp [Go.Sep.alu,qA8,ga,gb]; rfl) (by rw [hdo,if_neg (by omega),if_pos (by omega),ho]; simp [xJ]))
 ·have ht:qQ m i=⟨4,x.r,x.a,x.b,0⟩:=by rw [hstep]; simp [Go.Sep.single,ho]
  exact .inr (alu _ (by omega) (by rw [ht]; simp) (by rw [ht]; simp [Go.Sep.alu,qA8,ga,gb]; rfl) (by rw [hdo,if_neg (by omega),if_pos (by omega),ho]; simp [xJ]))
 ·
  have ht:qQ m i=⟨9,0,x.a,0,0⟩:=by rw [hstep]; simp [Go.Sep.single,ho]
  have hl:=hlast (by omega) (by omega)
  by_cases hful:(s.tr.length:Int)=4000
  ·left
   intro late
   refine cV ?_
   rw [cL hi,if_pos (.inr ⟨by rw [ht],by rw [htr]; exact hful⟩)]
  right
  have hml :∀late,yX m ⟨i,late⟩=({dJ m i {qI m i with at_:=(qI m i).at_+1} with tr:=s.tr++[⟨i,reg (thd s i) x.a⟩]},0):=by
   intro late
   have hmc:eJ m i=0:=by
    rw [cL hi,if_neg (by rw [hst,htr]; simp; intro _; exact hful),ht]
    simp [eK]
   rw [mX hmc]
   unfold mdo
   simp only
   rw [ht]
   simp only
   rw [if_neg (by decide),if_neg (by decide),if_neg (by decide),if_pos trivial]
   unfold qGj
   rw [if_neg (by rw [ha]; have:=hlt2 (j+1) hl; simp only; omega),ga,htr]
   rfl
  have hd:wN p s i=⟨s.ths.set i ⟨(j:Int)+1,(thd s i).regs,(thd s i).st⟩,s.chs,s.tr++[⟨i,reg (thd s i) x.a⟩]⟩:=by
   rw [hdo,if_neg (by omega),if_neg (by omega),if_pos ho,hgo _ _ _ (by omega)]
  have hs0:qY p (wN p s i)=true:=hcs (fun _=>by
   have:=((yS p s).1 h.src).2.2.2.1
   unfold zO at this
   simp only [qZu,decide_eq_true_eq] at this
   omega)
  rw [hd] at hs0
  refine ⟨_,hml,by rw [hsrc,if_neg (by omega),if_pos (by omega)],?_⟩
  rw [hd]
  exact h.go1 hC hN hi (t':=⟨(j:Int)+1,(thd s i).regs,(thd s i).st⟩) (hml 0) hs0 (.inr ⟨hst,hs,by show (qI m i).at_+1=frm p i ((j:Int)+1).toNat; rw [show ((j:Int)+1).toNat=j+1 by omega,hfs,ha],hr⟩) hno
 ·
  have hjm:=hjm (.inl ho)
  have ht:qQ m i=⟨10,0,0,0,frm p i x.n.toNat⟩:=by rw [hstep,←hsg _ hjm.2]; simp [Go.Sep.single,ho]
  have hml :∀late,yX m ⟨i,late⟩=(dJ m i {qI m i with at_:=frm p i x.n.toNat},0):=by
   intro late
   rw [@eI m i late hi hst (by rw [ht]; simp) (by rw [ht]; simp) (by rw [ht]; simp) (by rw [ht]; rfl) (by rw [ht]; exact hlt2 _ hjm.2),ht]
   rfl
  have hd:wN p s i=⟨s.ths.set i ⟨x.n,(thd s i).regs,(thd s i).st⟩,s.chs,s.tr⟩:=by
   rw [hdo,if_neg (by omega),if_neg (by omega),if_neg (by omega),if_pos ho,hgo _ _ _ (by omega)]
  have hs0:qY p (wN p s i)=true:=hcs (by omega)
  rw [hd] at hs0
  refine .inr ⟨_,hml,by rw [hsrc,if_neg (by omega),if_pos (by omega)],?_⟩
  rw [hd]
  have:=h.go1 hC hN hi (K':={qI m i with at_:=frm p i x.n.toNat}) (tr':=s.tr) (t':=⟨x.n,(thd s i).regs,(thd s i).st⟩) (by rw [hml 0,←htr]; rfl) hs0 (.inr ⟨hst,hs,rfl,hr⟩) hno
  rw [←htr] at this⊢
  exact this
 ·
  have hjm:=hjm (.inr ho)
  have hl:=hlast (by omega) (by omega)
  have ht:qQ m i=⟨11,0,x.a,0,frm p i x.n.toNat⟩:=by rw [hstep,←hsg _ hjm.2]; simp [Go.Sep.single,ho]
  have hz :∀q:Int,0≤q→q<(body p i).length→(if reg (thd s i) x.a=0 then x.n else (j:Int)+1)=q→gM (qI m i) (qQ m i)=frm p i q.toNat→
    ∃m',(∀late,yX m ⟨i,late⟩=(m',0))∧wQ p s i=0∧Inv p m' (wN p s i):=by
   intro q hq0 hq he hnx
   have hml :∀late,yX m ⟨i,late⟩=(dJ m i {qI m i with at_:=frm p i q.toNat},0):=by
    intro late
    rw [@eI m i late hi hst (by rw [ht]; simp) (by rw [ht]; simp) (by rw [ht]; simp) (by rw [ht]; rfl) (by rw [hnx]; exact hlt2 _ (by omega)),hnx,ht]
    rfl
   have hd:wN p s i=⟨s.ths.set i ⟨q,(thd s i).regs,(thd s i).st⟩,s.chs,s.tr⟩:=by
    rw [hdo,if_neg (by omega),if_neg (by omega),if_neg (by omega),if_neg (by omega),if_pos ho,he,hgo _ _ _ (by omega)]
   have hs0:qY p (wN p s i)=true:=hcs (by omega)
   rw [hd] at hs0
   refine ⟨_,hml,by rw [hsrc,if_neg (by omega),if_pos (by omega)],?_⟩
   rw [hd]
   have:=h.go1 hC hN hi (K':={qI m i with at_:=frm p i q.toNat}) (tr':=s.tr) (t':=⟨q,(thd s i).regs,(thd s i).st⟩) (by rw [hml 0,←htr]; rfl) hs0 (.inr ⟨hst,hs,rfl,hr⟩) hno
   rw [←htr] at this⊢
   exact this
  right
  by_cases hz0:reg (thd s i) x.a=0
  ·refine hz x.n hjm.1 (by omega) (by rw [if_pos hz0]) ?_
   rw [ht]
   unfold gM
   simp only
   rw [if_neg (by decide),if_pos ⟨trivial,by rw [ga]; exact hz0⟩]
  ·refine hz ((j:Int)+1) (by omega) (by omega) (by rw [if_neg hz0]) ?_
   rw [ht]
   unfold gM
   simp only
   rw [if_neg (by decide),if_neg (by rw [ga]; exact fun e=>hz0 e.2),show ((j:Int)+1).toNat=j+1 by omega,hfs,ha]
 ·
  have ht:qQ m i=⟨12,0,0,0,0⟩:=by rw [hstep]; simp [Go.Sep.single,ho]
  have hml :∀late,yX m ⟨i,late⟩=(dJ m i {qI m i with st:=1},0):=by
   intro late
   rw [mX (qAr hi hst (by rw [ht]; simp) (by rw [ht]; rfl))]
   unfold mdo stop
   simp only
   rw [if_pos (by rw [ht])]
  have hd:wN p s i=⟨s.ths.set i ⟨j,(thd s i).regs,1⟩,s.chs,s.tr⟩:=by
   rw [hdo,if_neg (by omega),if_neg (by omega),if_neg (by omega),if_neg (by omega),if_neg (by omega),if_pos ho]
  have hs0:qY p (wN p s i)=true:=hcs (by omega)
  rw [hd] at hs0
  refine .inr ⟨_,hml,by rw [hsrc,if_neg (by omega),if_pos (by omega)],?_⟩
  rw [hd]
  have:=h.go1 hC hN hi (K':={qI m i with st:=1}) (tr':=s.tr) (t':=⟨j,(thd s i).regs,1⟩) (by rw [hml 0,←htr]; rfl) hs0 (.inl ⟨(by decide:(1:Int)≠0),rfl⟩) hno
  rw [←htr] at this⊢
  exact this
theorem Inv.build {p:wU} {m m':qR} {s s':qS} {own own':Nat→Option Nat} {i n0:Nat} (h:Inv p m s) (hC :∀i,i<m.cores.length→tZ p m s own i) (hN :∀n,n<p.caps.length→qG1 p m s own n) (hn0:n0<p.caps.length)
  (hm:MOk m') (hcodes:m'.codes=m.codes) (hlen:m'.cores.length=m.cores.length) (hother :∀j,j≠i→qI m' j=qI m j) (hsrc:qY p s'=true) (hths :∀j,j≠i→thd s' j=thd s j) (htr:m'.tr=s'.tr)
  (hci:tZ p m' s' own' i) (hownj :∀j,j≠i→∀n,own' n=some j↔own n=some j) (hcells :∀c,¬(bs p.caps n0≤c∧c<bs p.caps n0+4+cp p.caps n0)→m'.mem.cells.getD c []=m.mem.cells.getD c [])
  (hdata :∀j,j≠i→own n0=some j→(∀c,bs p.caps n0+1≤c→c<bs p.caps n0+4+cp p.caps n0→m'.mem.cells.getD c []=m.mem.cells.getD c [])∧chn s' n0=chn s n0) (hchn :∀n,n≠n0→chn s' n=chn s n) (hown :∀n,n≠n0→own' n=own n)
  (hNI:qG1 p m' s' own' n0):Inv p m' s':=by
 have hdis :∀n,n≠n0→n<p.caps.length→∀c,bs p.caps n≤c→c<bs p.caps n+4+cp p.caps n→m'.mem.cells.getD c []=m.mem.cells.getD c []:=by
  intro n hn hnl c h1 h2
  refine hcells c fun hh=>?_
  rcases Nat.lt_or_gt_of_ne hn with h3 | h3
  ·have:=qFh h.lie h3 hn0
   omega
  ·have:=qFh h.lie h3 hnl
   omega
 refine ⟨hm,by rw [hcodes,h.codes],h.prog,h.lie,hsrc,htr,own',fun j hj=>?_,fun n hn=>?_⟩
 ·by_cases e:j=i
  ·rw [e]; exact hci
  ·refine (hC j (by omega)).frame (hother j e) (hths j e) (hownj j e) (fun n hno=>?_)
   by_cases en:n=n0
   ·subst en
    exact hdata j e hno
   ·have hnl:n<p.caps.length:=by
     have hcj:=hC j (by omega)
     cases hcj with
     | over _ _ ho=>exact absurd hno (ho n)
     | out _ _ _ _ _ _ ho=>exact absurd hno (ho n)
     | inner j' n' N a e fl hj' hx hn' hc hst hk1 hN' hs hd hf hg hh ho =>
      obtain ⟨rfl,_⟩:=ho n hno
      have:=qEv ((h.fix (by omega:j<m.cores.length)).ins hj') hx.1 hx.2
      omega
    exact ⟨fun c h1 h2=>hdis n en hnl c (by omega) h2,hchn n en⟩
 ·by_cases en:n=n0
  ·rw [en]; exact hNI
  ·refine (hN n hn).frame (hown n en) (fun c h1 h2 _=>hdis n en hn c h1 h2) (fun j e=>?_) (fun _=>hchn n en) hlen
   have:=((hN n hn).held j e).2
   unfold jH at this⊢
   rw [hdis n en hn _ (qZt _) (by omega)]
   exact this
theorem qRx {cs:List (List wZ)} {view:List Int} {c:Nat} (hm:qCw cs) (hv:VOk cs view) (hc:c<24):load cs view c 0 true=(jH cs c,join (view.set c (((cs.getD c []).length:Int)-1)) ((cs.getD c []).getD ((cs.getD c []).length-1) default).view):=by
 have h1:=(hm.cell c hc).1
 have h2:=hv.2 c hc
 have e:max (((cs.getD c []).length:Int)-1-max 0 0) (view.getD c 0)=((cs.getD c []).length:Int)-1:=by omega
 have e2:(((cs.getD c []).length:Int)-1).toNat=(cs.getD c []).length-1:=by omega
 unfold load jH
 simp only
 rw [e,e2,if_pos trivial]
theorem qUf {cs:List (List wZ)} {c:Nat} (hm:qCw cs) (hc:c<24):VOk cs ((cs.getD c []).getD ((cs.getD c []).length-1) default).view:=by
 have h1:=(hm.cell c hc).1
 exact hm.view c hc _ (yO _ _ _ (by omega))
theorem qNt {m:qR} {i:Nat} {b:Nat} (hM:MOk m) (hi:i<m.cores.length) (hst:(qI m i).st=0) (ht:qQ m i=⟨8,6,0,7,b⟩) (hb:b<24) (h7:(qI m i).regs.getD 7 0=1) (hn:(qI m i).at_+1<((m.codes.getD i []).length:Int)) :
  (∀late,yX m ⟨i,late⟩=(m,3))∨∃vw,vw=(join ((qI m i).view.set b (((m.mem.cells.getD b []).length:Int)-1)) ((m.mem.cells.getD b []).getD ((m.mem.cells.getD b []).length-1) default).view).set b ((m.mem.cells.getD b []).length:Int)∧
   ∀late,yX m ⟨i,late⟩=(dJ {m with mem:=⟨m.mem.cells.set b (m.mem.cells.getD b []++[⟨1,vw⟩])⟩} i ⟨(qI m i).at_+1,(qI m i).regs.set 6 (jH m.mem.cells b),vw,0⟩,0):=by
 have hm:eK (qQ m i).op=true:=by rw [ht]; rfl
 have hK:=hM.core i hi
 rcases qAq hi hst hm with h3 | ⟨h0,_⟩
 ·exact .inl fun late=>cV h3
 refine .inr ⟨_,rfl,fun late=>?_⟩
 have hcell:bC (qI m i) (qQ m i)=b:=by
  unfold bC
  rw [ht]
  simp
 rw [oI h0 hm hcell hb hn]
 have hrg:rg (qI m i) 7=1:=h7
 unfold dG
 rw [ht]
 simp only
 rw [if_neg (by decide),if_pos trivial,qRx hM.mem hK.view hb]
 simp only
 rw [rW,hrg,hst]
 rfl
theorem qOd {cs:List (List wZ)} {b n:Nat} {view:List Int} {x:wZ} (hm:qCw cs) (hv:VOk cs view) (h24:b+n+4≤24) (hc:fY cs b n ((cs.getD b []).getD ((cs.getD b []).length-1) default).view) :
  fY (cs.set b (cs.getD b []++[x])) b n ((join (view.set b (((cs.getD b []).length:Int)-1)) ((cs.getD b []).getD ((cs.getD b []).length-1) default).view).set b ((cs.getD b []).length:Int)):=by
 intro j hj1 hj2
 have hw:=qUf hm (c:=b) (by omega)
 have hl:=hm.len
 have h1:=hc j hj1 hj2
 have h2:=hv.2 (b+j) (by omega)
 have hjl:(join (view.set b (((cs.getD b []).length:Int)-1)) ((cs.getD b []).getD ((cs.getD b []).length-1) default).view).length=24:=by rw [nF _ _ (by rw [wBb,hv.1,hw.1]),wBb,hv.1]
 rw [uH _ _ _ _ _ (by omega),if_neg (by omega),zQ _ (by omega),if_neg (by omega)]
 rw [qJn _ _ _ (by rw [wBb,hv.1]; omega) (by rw [hw.1]; omega),uH _ _ _ _ _ (by rw [hv.1]; omega),if_neg (by omega)]
 omega
def qTn (K:uF) (k:Nat) (d:So) (hold:Bool):So:=⟨k,K.regs.take 4,K.regs.getD 4 0,K.regs.getD 5 0,K.regs.getD 6 0,K.regs.getD 7 0,d.fst,d.cnt,d.cls,d.dat,hold⟩
theorem qTm {K:uF} {f:Int} {k:Nat} {d:So} {hold:Bool} (h8:K.regs.length=8) (ha:K.at_=f+k) (hst:K.st=0):lQ K f (qTn K k d hold):=by
 refine ⟨ha,?_,by simp [qTn,h8],hst⟩
 obtain ⟨a,r,v,st⟩:=K
 simp only at h8
 match r,h8 with
 | [r0,r1,r2,r3,r4,r5,r6,r7],_=>rfl
theorem qWv (f b:Int) (X:List yV):(cW f b++X).getD 0 default=⟨1,7,0,0,1⟩∧(cW f b++X).getD 1 default=⟨8,6,0,7,b⟩∧(cW f b++X).getD 2 default=⟨11,0,6,0,f+4⟩∧(cW f b++X).getD 3 default=⟨10,0,0,0,f+0⟩:=⟨rfl,rfl,rfl,rfl⟩
theorem Inv.walk {p:wU} {m:qR} {s:qS} {own:Nat→Option Nat} {i:Nat} (h:Inv p m s) (hC :∀i,i<m.cores.length→tZ p m s own i) (hN :∀n,n<p.caps.length→qG1 p m s own n) (hi:i<m.cores.length) {K':uF}
  (hm:yX m ⟨i,0⟩=(dJ m i K',0)) (hci:tZ p (dJ m i K') s own i):Inv p (dJ m i K') s:=by
 have hM':MOk (dJ m i K'):=by
  have:=mW ⟨i,0⟩ ((jV m).2 h.mok)
  rw [hm] at this
  exact (jV _).1 this
 refine ⟨hM',h.codes,h.prog,h.lie,h.src,h.tr,own,fun j hj=>?_,fun n hn=>?_⟩
 ·by_cases e:j=i
  ·rw [e]; exact hci
  ·exact (hC j (by simpa [dJ] using hj)).frame (aR m i j K' e) rfl (fun _=>Iff.rfl) (fun n _=>⟨fun _ _ _=>rfl,rfl⟩)
 ·exact (hN n hn).frame rfl (fun _ _ _ _=>rfl) (fun j e=>((hN n hn).held j e).2) (fun _=>rfl) (iQ m i K')
theorem mA {l:List Int} {r:Nat} {v:Int} (h:4≤r):(l.set r v).take 4=l.take 4:=by
 rw [List.take_set,List.set_eq_of_length_le (by simp; omega)]
theorem Inv.spin {p:wU} {m:qR} {s:qS} {own:Nat→Option Nat} {i:Nat}
  (h:Inv p m s) (hC :∀i,i<m.cores.length→tZ p m s own i) (hN :∀n,n<p.caps.length→qG1 p m s own n) (hi:i<m.cores.length) {k:Nat}
  (hst:(qI m i).st=0) (hs:(thd s i).st=0) (ha:(qI m i).at_=frm p i (thd s i).at_.toNat+k) (hr:(qI m i).regs.take 4=(thd s i).regs) (hno :∀n,own n≠some i) (hx:eW (plc p i (thd s i).at_.toNat))
  (hk:k=0∨k=1∧(qI m i).regs.getD 7 0=1∨k=2∧(qI m i).regs.getD 6 0≠0∨k=3) :
  (∀late,yX m ⟨i,late⟩=(m,3))∨∃m',(∀late,yX m ⟨i,late⟩=(m',0))∧
   ((((decide ((qQ m i).op=8)&&qV (qQ m i).r 0 ((qI m' i).regs.length-1)&&decide ((qI m' i).regs.getD (qQ m i).r.toNat 0=0))=false)∧Inv p m' s)∨
    (((decide ((qQ m i).op=8)&&qV (qQ m i).r 0 ((qI m' i).regs.length-1)&&decide ((qI m' i).regs.getD (qQ m i).r.toNat 0=0))=true)∧(wQ p s i=0∨wQ p s i=4)∧Inv p m' (qT p s i).1)):=by
 have F:=h.fix hi
 have hxe:plc p i (thd s i).at_.toNat=Go.Sep.ins p s i:=rfl
 obtain ⟨j,hj⟩:=wBw F.at0
 have hjl:=F.at1
 have hK:=h.mok.core i hi
 have hr8:=hK.regs
 have hsz:=eC hx
 have hin:=F.ins hjl
 obtain ⟨n,hn,hnl,hem,hlen⟩:=F.chan h.lie hjl hx
 obtain ⟨c1,c2,c3,c4,c5⟩:=xM h.lie hnl
 have hstep:=fun (q:Nat) (hq:q<4) (e:k=q)=>(F.step h.lie hjl (k:=k) (by omega) ha).1
 rw [hem] at hstep
 have hlk:=qWv (frm p i (thd s i).at_.toNat) (bs p.caps n) (if (plc p i (thd s i).at_.toNat).op=5∨(plc p i (thd s i).at_.toNat).op=7 then sD (frm p i (thd s i).at_.toNat) (bs p.caps n) (cp p.caps n) (plc p i (thd s i).at_.toNat) else if (plc p i (thd s i).at_.toNat).op=6∨(plc p i (thd s i).at_.toNat).op=8 then rU (frm p i (thd s i).at_.toNat) (bs p.caps n) (cp p.caps n) (plc p i (thd s i).at_.toNat) else lI (frm p i (thd s i).at_.toNat) (bs p.caps n))
 have hlt:=F.frm_lt h.lie hjl
 have hf0:=qOa p i (thd s i).at_.toNat
 have hloc:=fun (late:Int)=>@eI m i late hi hst
 rcases hk with rfl | ⟨rfl,h7⟩ | ⟨rfl,h6⟩ | rfl
 ·
  right
  have ht:qQ m i=⟨1,7,0,0,1⟩:=by rw [hstep 0 (by omega) rfl]; exact hlk.1
  have hm :∀late,yX m ⟨i,late⟩=(dJ m i ⟨(qI m i).at_+1,(qI m i).regs.set 7 1,(qI m i).view,0⟩,0):=by
   intro late
   rw [hloc late (by rw [ht]; simp) (by rw [ht]; simp) (by rw [ht]; simp) (by rw [ht]; rfl) (by rw [ht]; show (qI m i).at_+1<_; omega),ht,←hst]
   rfl
  refine ⟨_,hm,.inl ⟨by rw [ht]; simp,?_⟩⟩
  refine h.walk hC hN hi (hm 0) (.out 1 ?_ hs ?_ ?_ (.inr ⟨hx,.inl ⟨rfl,?_⟩⟩) hno)
  ·rw [vI m i _ hi]
  ·rw [vI m i _ hi]
   show (qI m i).at_+1=_
   omega
  ·rw [vI m i _ hi]
   show ((qI m i).regs.set 7 1).take 4=_
   rw [mA (by omega),hr]
  ·rw [vI m i _ hi]
   exact (iP (by omega)).trans (if_pos rfl)
 ·
  have ht:qQ m i=⟨8,6,0,7,bs p.caps n⟩:=by rw [hstep 1 (by omega) rfl]; exact hlk.2.1
  rcases qNt h.mok hi hst ht (by omega) h7 (by omega) with hfu | ⟨vw,hvw,hm⟩
  ·exact .inl hfu
  right
  refine ⟨_,hm,?_⟩
  have hML:m.mem.cells.length=24:=h.mok.mem.len
  have hself:=vI {m with mem:=⟨m.mem.cells.set (bs p.caps n) (m.mem.cells.getD (bs p.caps n) []++[⟨1,vw⟩])⟩} i ⟨(qI m i).at_+1,(qI m i).regs.set 6 (jH m.mem.cells (bs p.caps n)),vw,0⟩ hi
  have hM':MOk (dJ {m with mem:=⟨m.mem.cells.set (bs p.caps n) (m.mem.cells.getD (bs p.caps n) []++[⟨1,vw⟩])⟩} i ⟨(qI m i).at_+1,(qI m i).regs.set 6 (jH m.mem.cells (bs p.caps n)),vw,0⟩):=by
   have:=mW ⟨i,0⟩ ((jV m).2 h.mok)
   rw [hm] at this
   exact (jV _).1 this
  generalize hM1:dJ {m with mem:=⟨m.mem.cells.set (bs p.caps n) (m.mem.cells.getD (bs p.caps n) []++[⟨1,vw⟩])⟩} i ⟨(qI m i).at_+1,(qI m i).regs.set 6 (jH m.mem.cells (bs p.caps n)),vw,0⟩=m' at *
  have hcel:m'.mem.cells=m.mem.cells.set (bs p.caps n) (m.mem.cells.getD (bs p.caps n) []++[⟨1,vw⟩]):=by rw [←hM1]; rfl
  have hcod:m'.codes=m.codes:=by rw [←hM1]; rfl
  have htr':m'.tr=m.tr:=by rw [←hM1]; rfl
  have hln:m'.cores.length=m.cores.length:=by rw [←hM1]; exact iQ _ _ _
  have hoth :∀q,q≠i→qI m' q=qI m q:=fun q hq=>by rw [←hM1,aR _ _ _ _ hq]; rfl
  have hbl:bs p.caps n<m.mem.cells.length:=by omega
  have hlw :∀c,jH m'.mem.cells c=if c=bs p.caps n then 1 else jH m.mem.cells c:=fun c=>by rw [hcel,bR _ hbl]
  have hcg :∀c,c≠bs p.caps n→m'.mem.cells.getD c []=m.mem.cells.getD c []:=fun c hc=>by rw [hcel,zQ _ hbl,if_neg hc]
  have hregs:(qI m' i).regs=(qI m i).regs.set 6 (jH m.mem.cells (bs p.caps n)):=by rw [hself]
  have hcond:(decide ((qQ m i).op=8)&&qV (qQ m i).r 0 ((qI m' i).regs.length-1)&&decide ((qI m' i).regs.getD (qQ m i).r.toNat 0=0))=decide (jH m.mem.cells (bs p.caps n)=0):=by
   rw [ht,hregs]
   simp only [wBb,hr8]
   have hw:qV 6 0 ((8:Nat)-1:Int)=true:=by decide
   rw [hw,show (6:Int).toNat=6 from rfl,iP (by omega),if_pos rfl]
   simp
  rw [hcond]
  cases how:own n with
  | some q =>
   obtain ⟨q1,q2⟩:=(hN n hnl).held q how
   have hqi:q≠i:=fun e=>hno n (by rw [how,e])
   left
   refine ⟨by rw [q2]; decide,?_⟩
   refine h.build hC hN hnl hM' hcod hln hoth h.src (fun _ _=>rfl) (by rw [htr',h.tr]) (.out 2 ?_ hs ?_ ?_ (.inr ⟨hx,.inr (.inl ⟨rfl,?_⟩)⟩) hno) (fun _ _ _=>Iff.rfl) (fun c hc=>hcg c (by omega)) (fun j' hj' _=>⟨fun c e1 e2=>hcg c (by omega),rfl⟩) (fun _ _=>rfl) (fun _ _=>rfl) ?_
   ·rw [hself]
   ·rw [hself]
    show (qI m i).at_+1=_
    omega
   ·rw [hregs,mA (by omega),hr]
   ·rw [hregs,iP (by omega),if_pos rfl,q2]
    decide
   ·refine (hN n hnl).frame rfl (fun c e1 e2 e3=>by rw [how] at e3; exact absurd e3 (by simp)) (fun _ _=>by rw [hlw,if_pos rfl]) (fun _=>rfl) hln
  | none =>
   obtain ⟨f1,f2,d,f3,f4,f5⟩:=(hN n hnl).free how
   right
   obtain ⟨g1,g2,g3⟩:=qK0 h hnl
   obtain ⟨_,_,o4⟩:=F.op hjl
   have hnt:(Go.Sep.ins p s i).n.toNat=n:=by rw [←hxe,hn]; simp
   have hne:(plc p i (thd s i).at_.toNat).op=6∨(plc p i (thd s i).at_.toNat).op=8→(plc p i (thd s i).at_.toNat).r≠(plc p i (thd s i).at_.toNat).b:=fun e=>by
    have hio:=hin
    unfold jE at hio
    intro er
    rcases e with e | e<;>simp [e,er] at hio
   have hgot:Got (qTn (qI m' i) 2 d true) (thd s i) (chn s n):=by
    refine ⟨rfl,?_,F.regs,?_,rfl,f5.same rfl rfl rfl rfl,g2⟩
    ·show (qI m' i).regs.take 4=_
     rw [hregs,mA (by omega),hr]
    ·show (qI m' i).regs.getD 6 0=0
     rw [hregs,iP (by omega),if_pos rfl,f1]
   obtain ⟨e,fl,hso,hend⟩:=qYt (frm p i (thd s i).at_.toNat) (bs p.caps n) _ _ _ _ hx o4 hne hgot
   rw [g3] at hso
   have hsrc:=mC (p:=p) F.ht hs
   rw [hnt,←hxe,if_neg (by unfold eW at hx; omega)] at hsrc
   have hstep':((wQ p s i=4∧(e.k=0∧fl=false))∨(wQ p s i=0∧¬(e.k=0∧fl=false))):=by
    by_cases hwt:e.k=0∧fl=false
    ·left
     have hw:=hend.wait.1 hwt
     refine ⟨?_,hwt⟩
     rw [hsrc,if_neg (by rcases hw.2 with ⟨hh,_⟩ | ⟨hh,_⟩<;>omega),if_pos hw]
    ·right
     refine ⟨?_,hwt⟩
     rw [hsrc]
     split
     ·rfl
     ·rw [if_neg (fun hw=>hwt (hend.wait.2 hw))]
   refine ⟨by rw [f1]; decide,hstep'.elim (fun hh=>.inr hh.1) (fun hh=>.inl hh.1),?_⟩
   have hdo:wN p s i=vM p ⟨s.ths,s.chs.set n (qX (thd s i) (chn s n) (plc p i (thd s i).at_.toNat)).2.1,s.tr⟩ i (qX (thd s i) (chn s n) (plc p i (thd s i).at_.toNat)).1 (qX (thd s i) (chn s n) (plc p i (thd s i).at_.toNat)).2.2 ((thd s i).at_+1):=by
    unfold eW at hx
    unfold wN
    rw [←hxe,if_neg (by omega),if_neg (by omega),if_neg (by omega),if_neg (by omega),if_neg (by omega),if_neg (by omega),hn,wBl]
    rfl
   have hlast:=F.last hjl (by unfold eW at hx; omega) (by unfold eW at hx; omega)
   have hths:=qCa (thd s i) (chn s n) (plc p i (thd s i).at_.toNat)
   have hs' :∃t' c',(qT p s i).1=⟨s.ths.set i t',s.chs.set n c',s.tr⟩∧xW e c'∧(fl=true→t'.st=2)∧(fl=false→t'.st=0∧t'.at_=(if e.k=0 then (thd s i).at_ else (thd s i).at_+1)∧e.low=t'.regs):=by
    rcases hstep' with ⟨q1,q2,q3⟩ | ⟨q1,q2⟩
    ·refine ⟨thd s i,chn s n,?_,hend.ch0 q2 q3,fun e=>by rw [q3] at e; exact absurd e (by decide),fun _=>⟨hs,by rw [if_pos q2],?_⟩⟩
     ·unfold qT
      rw [if_neg (by rw [q1]; decide)]
      unfold thd chn
      rw [jD _ _ _ F.ht,jD _ _ _ g1]
     ·exact (hend.wt q3 (by rw [q2]; omega)).2.1
    ·have hss:(qT p s i).1=wN p s i:=by
      unfold qT
      rw [if_pos q1]
      rfl
     rw [hss,hdo]
     unfold vM
     cases hfl:fl with
     | true =>
      rw [if_pos (.inl (hend.flt hfl))]
      exact ⟨_,_,rfl,hend.ch1 (.inr hfl),fun _=>rfl,fun e=>absurd e (by decide)⟩
     | false =>
      have hk0:e.k≠0:=fun e0=>q2 ⟨e0,hfl⟩
      have hksz:e.k=(wI (plc p i (thd s i).at_.toNat)).toNat:=by
       apply Classical.byContradiction
       intro hne
       exact hk0 (hend.wt hfl hne).1
      obtain ⟨w1,w2,w3⟩:=hend.nxt hfl hksz
      have hbl2:((p.bods.getD i []).length:Int)=(body p i).length:=rfl
      rw [if_neg (by rw [w2,hbl2]; simp; omega)]
      exact ⟨_,_,rfl,hend.ch1 (.inl hk0),fun e=>absurd e (by decide),fun _=>⟨by rw [hths.2.1]; exact hs,by rw [if_neg hk0],w3⟩⟩
   obtain ⟨t',c',hS,hch,hfl,hgl⟩:=hs'
   have hsrcOk:qY p (qT p s i).1=true:=by
    unfold qT
    split
    ·exact hX h.src F.ht (fun e10=>by have e11:(Go.Sep.ins p s i).op=10:=e10; rw [←hxe] at e11; unfold eW at hx; omega)
    ·exact h.src
   rw [hS] at hsrcOk⊢
   have hthd :∀q,thd ⟨s.ths.set i t',s.chs.set n c',s.tr⟩ q=if q=i then t' else thd s q:=fun q=>oB t' F.ht _ _ q
   have hchn :∀q,chn ⟨s.ths.set i t',s.chs.set n c',s.tr⟩ q=if q=n then c' else chn s q:=fun q=>by
    unfold chn
    exact fP _ _ _ _ _ g1
   have hsz40:xK (frm p i (thd s i).at_.toNat) (bs p.caps n) (vD (frm p i (thd s i).at_.toNat) (bs p.caps n) (cp p.caps n) (plc p i (thd s i).at_.toNat)) ((wI (plc p i (thd s i).at_.toNat)).toNat-2) (qTn (qI m' i) 2 d true)=some (e,fl):=by
    have:=qA7 hso
    have hl2:(vD (frm p i (thd s i).at_.toNat) (bs p.caps n) (cp p.caps n) (plc p i (thd s i).at_.toNat)).length=(wI (plc p i (thd s i).at_.toNat)).toNat:=by omega
    rw [hl2] at this
    exact this
   have hci:tZ p m' ⟨s.ths.set i t',s.chs.set n c',s.tr⟩ (fun q=>if q=n then some i else own q) i:=by
    refine .inner (thd s i).at_.toNat n _ (qTn (qI m' i) 2 d true) e fl hjl hx hn (qTm (by rw [hregs,wBb]; exact hr8) ?_ ?_) ?_ (by decide:1≤2) ?_ hsz40 f3 ?_ ?_ ?_ ?_
    ·rw [hself]
     show (qI m i).at_+1=_
     omega
    ·rw [hself]
    ·show (!true&&_)=false
     rfl
    ·show (wI _).toNat-2+2≤_
     omega
    ·rw [hthd,if_pos rfl]; exact hfl
    ·rw [hthd,if_pos rfl]
     intro e0
     obtain ⟨y1,y2,y3⟩:=hgl e0
     refine ⟨y1,?_,y3⟩
     rw [y2,hj]
     simp
    ·intro _
     refine ⟨by simp,⟨?_,?_,?_,fun q hq=>?_⟩,?_,by rw [hchn,if_pos rfl]; exact hch⟩
     ·rw [hlw,if_neg (by omega)]; exact f4.fst
     ·rw [hlw,if_neg (by omega)]; exact f4.cnt
     ·rw [hlw,if_neg (by omega)]; exact f4.cls
     ·rw [hlw,if_neg (by omega)]; exact f4.dat q hq
     ·rw [hself,hcel,hvw]
      exact qOd h.mok.mem hK.view (by omega) f2
    ·intro n' e'
     by_cases en:n'=n
     ·exact ⟨en,rfl⟩
     ·exact absurd (by simpa [en] using e') (hno n')
   refine h.build hC hN hnl hM' hcod hln hoth hsrcOk (fun q hq=>by rw [hthd,if_neg hq]) (by rw [htr',h.tr]) hci (fun q hq n'=>?_) (fun c hc=>hcg c (by omega)) (fun q hq e=>by rw [how] at e; exact absurd e (by simp)) (fun q hq=>by rw [hchn,if_neg hq]) (fun q hq=>by simp [hq]) ⟨fun e=>by simp at e,fun q e=>?_⟩
   ·by_cases en:n'=n
    ·subst en
     simp [how,Ne.symm hq]
    ·simp [en]
   ·simp only [if_pos,Option.some.injEq] at e
    subst e
    exact ⟨by omega,by rw [hlw,if_pos rfl]⟩
 ·
  right
  have ht:qQ m i=⟨11,0,6,0,frm p i (thd s i).at_.toNat+4⟩:=by rw [hstep 2 (by omega) rfl]; exact hlk.2.2.1
  have hnx:gM (qI m i) (qQ m i)=(qI m i).at_+1:=by
   rw [ht]
   unfold gM
   simp only
   rw [if_neg (by decide),if_neg (fun e=>h6 e.2)]
  have hm :∀late,yX m ⟨i,late⟩=(dJ m i ⟨(qI m i).at_+1,(qI m i).regs,(qI m i).view,0⟩,0):=by
   intro late
   rw [hloc late (by rw [ht]; simp) (by rw [ht]; simp) (by rw [ht]; simp) (by rw [ht]; rfl) (by rw [hnx]; omega),hnx,ht,←hst]
   rfl
  refine ⟨_,hm,.inl ⟨by rw [ht]; simp,?_⟩⟩
  refine h.walk hC hN hi (hm 0) (.out 3 ?_ hs ?_ ?_ (.inr ⟨hx,.inr (.inr rfl)⟩) hno)
  ·rw [vI m i _ hi]
  ·rw [vI m i _ hi]
   show (qI m i).at_+1=_
   omega
  ·rw [vI m i _ hi]
   exact hr
 ·
  right
  have ht:qQ m i=⟨10,0,0,0,frm p i (thd s i).at_.toNat+0⟩:=by rw [hstep 3 (by omega) rfl]; exact hlk.2.2.2
  have hm :∀late,yX m ⟨i,late⟩=(dJ m i ⟨frm p i (thd s i).at_.toNat+0,(qI m i).regs,(qI m i).view,0⟩,0):=by
   intro late
   rw [hloc late (by rw [ht]; simp) (by rw [ht]; simp) (by rw [ht]; simp) (by rw [ht]; rfl) (by rw [ht]; show frm p i (thd s i).at_.toNat+0<_; omega),ht,←hst]
   rfl
  refine ⟨_,hm,.inl ⟨by rw [ht]; simp,?_⟩⟩
  refine h.walk hC hN hi (hm 0) (.out 0 ?_ hs ?_ ?_ (.inl rfl) hno)
  ·rw [vI m i _ hi]
  ·rw [vI m i _ hi]
   rfl
  ·rw [vI m i _ hi]
   exact hr
theorem Inv.inner {p:wU} {m:qR} {s:qS} {own:Nat→Option Nat} {i:Nat} (h:Inv p m s) (hC :∀i,i<m.cores.length→tZ p m s own i) (hN :∀n,n<p.caps.length→qG1 p m s own n) (hi:i<m.cores.length)
  {j n N:Nat} {a e:So} {fl:Bool} (hj:j<(body p i).length) (hx:eW (plc p i j)) (hn:(plc p i j).n=n) (hc:lQ (qI m i) (frm p i j) a) (hst:a.settled (wI (plc p i j)).toNat=false) (hk1:1≤a.k)
  (hNk:N+a.k≤(wI (plc p i j)).toNat) (hs:xK (frm p i j) (bs p.caps n) (vD (frm p i j) (bs p.caps n) (cp p.caps n) (plc p i j)) N a=some (e,fl)) (hd:a.dat.length=cp p.caps n)
  (hf:fl=true→(thd s i).st=2) (hg:fl=false→(thd s i).st=0∧(thd s i).at_=(if e.k=0 then (j:Int) else j+1)∧e.low=(thd s i).regs)
  (hh:a.hold=true→own n=some i∧qBe m.mem.cells (bs p.caps n) a∧fY m.mem.cells (bs p.caps n) (cp p.caps n) (qI m i).view∧xW e (chn s n))
  (ho :∀n',own n'=some i→n'=n∧a.hold=true) :
  (∀late,yX m ⟨i,late⟩=(m,3))∨∃m',(∀late,yX m ⟨i,late⟩=(m',0))∧(qQ m i).op≠8∧Inv p m' s∧(1≤N):=by
 have F:=h.fix hi
 obtain ⟨n',hn',hnl,hem,hlen⟩:=F.chan h.lie hj hx
 obtain rfl:n'=n:=by omega
 obtain ⟨c1,c2,c3,c4,c5⟩:=xM h.lie hnl
 have hl2:(vD (frm p i j) (bs p.caps n') (cp p.caps n') (plc p i j)).length=(wI (plc p i j)).toNat:=by omega
 rw [←hl2] at hst
 obtain ⟨hk,M,rfl,hcase⟩:=aQ hs hst
 have hko:(a.k:Int)<wI (plc p i j):=by omega
 have hstep:=(F.step h.lie hj (k:=a.k) hko hc.at_).1
 rw [hem] at hstep
 rw [←hstep] at hcase
 have hlt:=F.frm_lt h.lie hj
 have hf0:=qOa p i j
 have hj1:j+1<(body p i).length:=F.last hj (by unfold eW at hx; omega) (by unfold eW at hx; omega)
 have hlt2:=F.frm_lt2 h.lie hj1
 rw [tF hj] at hlt2
 rcases hcase with ⟨a',h1,h2,h3⟩ | ⟨a',h1,h2,h3⟩
 ·
  have hak:a'.k≤(wI (plc p i j)).toNat:=by
   cases hs':a'.settled (vD (frm p i j) (bs p.caps n') (cp p.caps n') (plc p i j)).length
   ·have:=(aQ h3 hs').1
    omega
   ·simp only [So.settled,qZu,wA5,decide_eq_true_eq] at hs'
    omega
  have hdl:=qR3 h1
  rcases qYh h.mok hi hc (fun e0=>by obtain ⟨_,y1,y2,_⟩:=hh e0; exact ⟨y1,by rw [hd]; exact y2⟩) (by omega) h1 (by omega) hf0 with hfu | ⟨m',hm,A⟩
  ·exact .inl hfu
  right
  refine ⟨m',hm,(qTl h1).1,?_,by omega⟩
  have hM':MOk m':=by
   have:=mW ⟨i,0⟩ ((jV m).2 h.mok)
   rw [hm] at this
   exact (jV _).1 this
  have A7:=A.held
  have A8:=A.free
  have A9:=A.out
  rw [hd] at A7 A8 A9
  have hown :∃own':Nat→Option Nat,own'=fun q=>if q=n'∧a.hold=true then (if a'.hold=true then some i else none) else own q:=⟨_,rfl⟩
  obtain ⟨own',hown⟩:=hown
  have hone :∀q,own' q=some i→q=n'∧a'.hold=true:=by
   intro q e0
   rw [hown] at e0
   simp only at e0
   split at e0
   ·rename_i hq
    split at e0
    ·rename_i ht
     exact ⟨hq.1,ht⟩
    ·exact absurd e0 (by simp)
   ·rename_i hq
    exact absurd (ho q e0) hq
  have hci:tZ p m' s own' i:=by
   cases hs':a'.settled (vD (frm p i j) (bs p.caps n') (cp p.caps n') (plc p i j)).length
   ·rw [hl2] at hs'
    refine .inner j n' _ a' e fl hj hx hn A.core hs' ?_ ?_ (qA7 h3) (by rw [hdl,hd]) hf hg ?_ hone
    ·rcases h2 with h2 | ⟨h2,h5⟩
     ·omega
     ·exfalso
      simp [So.settled,h2,h5] at hs'
    ·omega
    ·intro hold'
     obtain ⟨z1,z2,z3,z4⟩:=A7 hold'
     refine ⟨?_,z2,z3,(hh z1).2.2.2⟩
     rw [hown]
     simp [z1,hold']
   ·rw [jT hs'] at h3
    simp only [Option.some.injEq,Prod.mk.injEq] at h3
    obtain ⟨rfl,rfl⟩:=h3
    obtain ⟨y1,y2,y3⟩:=hg rfl
    simp only [So.settled,qZu,wA5,decide_eq_true_eq,Bool.not_eq_true'] at hs'
    refine .out 0 A.core.st y1 ?_ ?_ (.inl rfl) (fun q e0=>by have:=(hone q e0).2; rw [hs'.1] at this; exact absurd this (by decide))
    ·rw [A.core.at_,y2]
     rcases hs'.2 with h0 | h0
     ·rw [if_pos h0,h0]
      simp
     ·rw [hl2] at h0
      have:=F.size hj
      rw [if_neg (by omega),show ((j:Int)+1).toNat=j+1 by omega,tF hj]
      omega
    ·rw [A.core.regs,←y3]
     rw [List.take_append_of_le_length (by rw [A.core.low]; omega),wA3 (by rw [A.core.low]; omega)]
  by_cases hhold:a.hold=true
  ·obtain ⟨y1,y2,y3,y4⟩:=hh hhold
   refine h.build hC hN hnl hM' A.codes A.len A.other h.src (fun _ _=>rfl) (by rw [A.tr,h.tr]) hci (fun q hq n2=>?_) (fun c hc'=>A9 c (by omega)) (fun q hq e0=>by rw [y1] at e0; simp only [Option.some.injEq] at e0; exact absurd e0.symm hq) (fun _ _=>rfl) (fun q hq=>by rw [hown]; simp [hq]) ?_
   ·rw [hown]
    simp only
    split
    ·rename_i hq2
     rw [hq2.1,y1]
     split<;>simp [Ne.symm hq]
    ·exact Iff.rfl
   ·cases hh':a'.hold with
    | true =>
     have ow:own' n'=some i:=by rw [hown]; simp [hhold,hh']
     refine ⟨fun e0=>by rw [ow] at e0; exact absurd e0 (by simp),fun q e0=>?_⟩
     rw [ow] at e0
     simp only [Option.some.injEq] at e0
     subst e0
     refine ⟨by rw [A.len]; exact hi,?_⟩
     have:=((hN n' hnl).held i y1).2
     unfold jH at this⊢
     rw [(A7 hh').2.2.2]
     exact this
    | false =>
     have ow:own' n'=none:=by rw [hown]; simp [hhold,hh']
     obtain ⟨x1,x2,x3⟩:=A8 hhold hh'
     obtain ⟨k1,k2,k3,k4,k5⟩:=qH3 h3 hh'
     refine ⟨fun _=>⟨x1,x3,a',by rw [hdl,hd],x2,y4.same k4.symm k1.symm k2.symm k3.symm⟩,fun q e0=>by rw [ow] at e0; exact absurd e0 (by simp)⟩
  ·have hhf:a.hold=false:=by simpa using hhold
   have hmem:=A.none hhf
   have howe:own'=own:=by rw [hown]; funext q; simp [hhf]
   rw [howe] at hci
   refine ⟨hM',by rw [A.codes,h.codes],h.prog,h.lie,h.src,by rw [A.tr,h.tr],own,fun q hq=>?_,fun q hq=>?_⟩
   ·by_cases e0:q=i
    ·rw [e0]; exact hci
    ·exact (hC q (by rw [A.len] at hq; exact hq)).frame (A.other q e0) rfl (fun _=>Iff.rfl) (fun _ _=>⟨fun _ _ _=>by rw [hmem],rfl⟩)
   ·refine (hN q hq).frame rfl (fun _ _ _ _=>by rw [hmem]) (fun q' e0=>?_) (fun _=>rfl) A.len
    rw [hmem]
    exact ((hN q hq).held q' e0).2
 ·
  obtain ⟨h13,rfl⟩:=qNf h1
  simp only [Prod.mk.injEq] at h3
  obtain ⟨rfl,rfl⟩:=h3
  right
  have hm:=fun late=>@qLj m i late hi hc.st h13
  refine ⟨_,hm,by omega,?_,by omega⟩
  refine h.walk hC hN hi (hm 0) (.over ?_ ?_ (fun q e0=>by have:=(ho q e0).2; rw [h2] at this; exact absurd this (by decide)))
  ·rw [vI m i _ hi]
   exact (by decide:(2:Int)≠0)
  ·rw [vI m i _ hi]
   exact hf rfl
theorem Inv.step {p:wU} {m:qR} {s:qS} {i:Nat} (h:Inv p m s) (hi:i<m.cores.length) :
  (∀late,yX m ⟨i,late⟩=(m,3))∨∃m',(∀late,yX m ⟨i,late⟩=(m',0))∧
   ((iY p (qQ m i) (qI m' i).regs i (qI m i).at_=false∧Inv p m' s)∨
    (iY p (qQ m i) (qI m' i).regs i (qI m i).at_=true∧(wQ p s i=0∨wQ p s i=4)∧Inv p m' (qT p s i).1)):=by
 obtain ⟨own,hC,hN⟩:=h.own
 have F:=h.fix hi
 cases hC i hi with
 | over hst hs ho =>
  left
  intro late
  refine cV ?_
  rw [cL hi,if_pos (.inl hst)]
 | out k hst hs ha hr hk hno =>
  by_cases hx:eW (plc p i (thd s i).at_.toNat)
  ·have hsz:=eC hx
   have hk':k=0∨k=1∧(qI m i).regs.getD 7 0=1∨k=2∧(qI m i).regs.getD 6 0≠0∨k=3:=by
    rcases hk with hk | ⟨_,hk⟩
    ·exact .inl hk
    ·exact .inr hk
   rcases h.spin hC hN hi hst hs ha hr hno hx hk' with hfu | ⟨m',hm,hh⟩
   ·exact .inl hfu
   right
   refine ⟨m',hm,?_⟩
   rw [F.commits h.lie F.at1 (k:=k) (by omega) ha]
   have h1:decide (wI (plc p i (thd s i).at_.toNat)=1)=false:=by simp; omega
   rw [h1,Bool.or_false]
   exact hh
  ·have hk0:k=0:=by
    rcases hk with hk | ⟨hk,_⟩
    ·exact hk
    ·exact absurd hk hx
   subst hk0
   have hone:=F.one h.lie F.at1 hx
   rcases h.single hC hN hi hst hs (by rw [ha]; simp) hr hno hx with hfu | ⟨m',hm,h0,hI⟩
   ·exact .inl hfu
   right
   refine ⟨m',hm,.inr ⟨?_,.inl h0,?_⟩⟩
   ·rw [F.commits h.lie F.at1 (k:=0) (by rw [hone.2]; decide) ha,hone.2]
    simp
   ·unfold qT
    rw [if_pos h0]
    exact hI
 | inner j n N a e fl hj hx hn hc hst hk1 hNk hs hd hf hg hh ho =>
  rcases h.inner hC hN hi hj hx hn hc hst hk1 hNk hs hd hf hg hh ho with hfu | ⟨m',hm,h8,hI,_⟩
  ·exact .inl hfu
  right
  refine ⟨m',hm,.inl ⟨?_,hI⟩⟩
  have hsz:=eC hx
  rw [F.commits h.lie hj (k:=a.k) (by omega) hc.at_]
  have h1:decide (wI (plc p i j)=1)=false:=by simp; omega
  have h2:decide ((qQ m i).op=8)=false:=by simpa using h8
  rw [h1,h2]
  rfl
theorem qAp {m:qR} {x:qCv} (h :¬(0≤x.who∧x.who.toNat<m.cores.length)):yX m x=(m,2):=by
 have hc:eJ m x.who=2:=by
  unfold eJ
  have hw:qV x.who 0 ((m.cores.length:Int)-1)=false:=by
   cases hh:qV x.who 0 ((m.cores.length:Int)-1)
   ·rfl
   ·rw [qK] at hh
    exact absurd ⟨hh.1,by omega⟩ h
  rw [hw]
  rfl
 unfold yX
 rw [hc,if_neg (by decide)]
theorem Inv.late {p:wU} {m:qR} {s:qS} (h:Inv p m s) (x:qCv):yX m x=yX m ⟨x.who,0⟩:=by
 by_cases hw:0≤x.who∧x.who.toNat<m.cores.length
 ·obtain ⟨who,late⟩:=x
  simp only at hw⊢
  obtain ⟨i,rfl⟩:=wBw hw.1
  rcases h.step (i:=i) (by simpa using hw.2) with h1 | ⟨m',h1,_⟩<;>rw [h1 late,h1 0]
 ·rw [qAp hw,qAp (x:=⟨x.who,0⟩) hw]
theorem Inv.pick {p:wU} {m:qR} {s:qS} (h:Inv p m s) (x:qCv):(did p m x=false∧Inv p (yX m x).1 s)∨(did p m x=true∧(wQ p s x.who=0∨wQ p s x.who=4)∧Inv p (yX m x).1 (qT p s x.who).1):=by
 by_cases hw:0≤x.who∧x.who.toNat<m.cores.length
 ·obtain ⟨who,late⟩:=x
  simp only at hw⊢
  obtain ⟨i,rfl⟩:=wBw hw.1
  rcases h.step (i:=i) (by simpa using hw.2) with h1 | ⟨m',h1,hh⟩
  ·left
   have hh:=h1 late
   refine ⟨?_,by rw [hh]; exact h⟩
   unfold did
   rw [hh]
   rfl
  ·have hd:did p m ⟨(i:Int),late⟩=iY p (qQ m i) (qI m' i).regs i (qI m i).at_:=by
    unfold did
    rw [h1 late]
    simp
   rw [hd,h1 late]
   exact hh
 ·left
  have hh:=qAp hw
  refine ⟨?_,by rw [hh]; exact h⟩
  unfold did
  rw [hh]
  rfl
def rZ (p:wU):qS→List Int→qS
 | s,[]=>s
 | s,x::l=>rZ p (qT p s x).1 l
def eR (p:wU):qS→List Int→List Int
 | _,[]=>[]
 | s,x::l=>(qT p s x).2::eR p (qT p s x).1 l
theorem qJ9 (p:wU) :∀(l:List Int) (s:qS) (c:List Int),l.foldl (zE p) (s,c)=(rZ p s l,c++eR p s l)
 | [],s,c=>by simp [rZ,eR]
 | x::l,s,c=>by
  simp only [List.foldl_cons,zE,rZ,eR]
  rw [qJ9 p l]
  simp
theorem qQz {p:wU} {s:qS} {who:Int}:(qT p s who).2=wQ p s who:=by
 unfold qT
 split
 ·rename_i h; exact h.symm
 ·rfl
theorem Inv.run {p:wU} :∀(l:List qCv) {m:qR} {s:qS},Inv p m s→Inv p (qWr m l) (rZ p s (qA2 p m l))∧∀c∈eR p s (qA2 p m l),c=0∨c=4
 | [],m,s,h=>⟨h,by simp [qA2,eR]⟩
 | x::l,m,s,h=>by
  rcases h.pick x with ⟨h1,h2⟩ | ⟨h1,h2,h3⟩
  ·simp only [qWr,qA2,h1]
   exact Inv.run l h2
  ·obtain ⟨g1,g2⟩:=Inv.run l h3
   simp only [qWr,qA2,h1,if_true,List.cons_append,List.nil_append,rZ,eR]
   refine ⟨g1,fun c hc=>?_⟩
   rcases List.mem_cons.1 hc with rfl | hc
   ·rw [qQz]; exact h2
   ·exact g2 c hc
theorem qSq {cs:List (List wZ)} {b:Nat} {a:So} {c:jS} (hd:qBe cs b a) (h:xW a c):qMl cs b c.cap a.fst c.list.length=c.list:=by
 apply List.ext_getElem (qK4 _ _ _ _ _)
 intro j h1 h2
 have h3:=h.at_ j h2
 have hm:((a.fst+(j:Int))%c.cap).toNat<a.dat.length:=by
  have:=h.cap
  have:=h.cap1
  have:=Int.emod_nonneg (a.fst+(j:Int)) (b:=c.cap) (by omega)
  have:=Int.emod_lt_of_pos (a.fst+(j:Int)) (b:=c.cap) (by omega)
  omega
 simp only [qMl,List.getElem_map,List.getElem_range]
 rw [hd.dat _ hm,←h3]
 simp [qZw,h2]
theorem qOl {cs:List (List wZ)} {b:Nat} {a:So} {c:jS} (hd:qBe cs b a) (h:xW a c):qOm cs b c.cap=(c,true):=by
 unfold qOm
 have e1:qV a.fst 0 (c.cap-1)=true:=by rw [qK]; have:=h.fst0; have:=h.fst1; omega
 have e2:qV a.cnt 0 c.cap=true:=by rw [qK]; have:=h.cnt; have:=h.len; omega
 have e3:qV a.cls 0 1=true:=by rw [h.cls]; cases c.closed<;>rfl
 rw [hd.fst,hd.cnt,hd.cls,e1,e2,e3,h.cnt,wBl,qSq hd h]
 have e4:decide (a.cls=1)=c.closed:=by rw [h.cls]; cases c.closed<;>rfl
 rw [e4]
 rfl
theorem Inv.chan {p:wU} {m:qR} {s:qS} (h:Inv p m s) {n:Nat} (hn:n<p.caps.length):qD6 m.mem.cells p.caps n=true∨(qD6 m.mem.cells p.caps n=false∧qB4 m.mem.cells p.caps n=(chn s n,true)):=by
 obtain ⟨own,hC,hN⟩:=h.own
 obtain ⟨c1,c2,c3,c4,c5⟩:=xM h.lie hn
 have hmo:=(sO _).2 h.mok.mem
 have hb:base p.caps n=bs p.caps n:=c1
 unfold qD6
 rw [hb,hmo,wBl]
 have d:decide ((0:Int)≤(bs p.caps n:Int))=true:=by simp
 rw [d]
 cases how:own n with
 | some i =>
  left
  rw [((hN n hn).held i how).2]
  rfl
 | none =>
  right
  obtain ⟨f1,f2,a,f3,f4,f5⟩:=(hN n hn).free how
  refine ⟨by rw [f1]; rfl,?_⟩
  unfold qB4
  rw [hb,hmo,wBl]
  have d2:decide ((bs p.caps n:Int)<0)=false:=by simp
  rw [d2]
  have hcap:=(qK0 h hn).2.2
  simp only [Bool.not_false,Bool.and_self,if_true,wBl]
  rw [c2,←hcap]
  exact qOl f4 f5
theorem qGl {p:wU} {m:qR} {s:qS} {i:Nat} (h:Inv p m s) (hi:i<m.cores.length):nM p m s i=true:=by
 obtain ⟨own,hC,hN⟩:=h.own
 have F:=h.fix hi
 have hK:=h.mok.core i hi
 have hw1:qV (i:Int) 0 ((m.cores.length:Int)-1)=true:=by rw [qK]; omega
 have hw2:decide ((i:Int)<(s.ths.length:Int))=true:=by have:=F.ht; simp; omega
 have hpl:fM p i (qI m i).at_=dK (body p i) 0 0 (qI m i).at_:=by
  unfold fM
  have hw:qV (i:Int) 0 ((p.bods.length:Int)-1)=true:=by have:=F.hb; rw [qK]; omega
  rw [h.prog,hw]
  rfl
 have hres:nM p m s i=(if (fM p i (qI m i).at_).1<0∨(qI m i).regs.length<4∨(thd s i).regs.length<4 then false
  else if (qI m i).st≠0 then decide ((thd s i).st=(qI m i).st)
  else if (fM p i (qI m i).at_).2 then decide ((thd s i).st=0)&&decide ((thd s i).at_=(fM p i (qI m i).at_).1)&&decide ((qI m i).regs.take 4=(thd s i).regs.take 4)
  else true):=by
  simp only [nM,hw1,hw2,Bool.and_self,if_true,wBl]
  rfl
 have hat0:=hK.at0
 have hat1:=hK.at1
 rw [F.code] at hat1
 have hcomp:=qXb F.bok h.lie hat0 hat1
 have hp0 :¬((fM p i (qI m i).at_).1<0∨(qI m i).regs.length<4∨(thd s i).regs.length<4):=by
  rw [hpl]
  have:=hcomp.1
  have:=hK.regs
  have:=F.regs
  omega
 rw [hres,if_neg hp0]
 cases hC i hi with
 | over hst hs ho=>rw [if_pos hst,hs]; simp
 | out k hst hs ha hr hk hno =>
  rw [if_neg (by simp [hst])]
  have hkz:(k:Int)<wI (plc p i (thd s i).at_.toNat):=by
   rcases hk with rfl | ⟨hx,hk⟩
   ·have:=F.size F.at1; omega
   ·have:=eC hx; omega
  have:=(F.step h.lie F.at1 hkz ha).2
  rw [hpl,this]
  by_cases hk0:k=0
  ·have hrl:(thd s i).regs.take 4=(thd s i).regs:=wA3 (by rw [F.regs]; exact qZt _)
   have:=F.at0
   simp only [hk0,decide_true,if_true]
   rw [hs,hr,hrl,Int.toNat_of_nonneg F.at0]
   simp
  ·simp [hk0]
 | inner j n N a e fl hj hx hn hc hst hak hNk hs hd hf hg hh ho =>
  rw [if_neg (by simp [hc.st])]
  obtain ⟨n',hn',hnl,hem,hlen⟩:=F.chan h.lie hj hx
  have hkl:(a.k:Int)<wI (plc p i j):=by
   obtain rfl:n'=n:=by omega
   have hl2:(vD (frm p i j) (bs p.caps n') (cp p.caps n') (plc p i j)).length=(wI (plc p i j)).toNat:=by omega
   rw [←hl2] at hst
   have:=(aQ hs hst).1
   omega
  have:=(F.step h.lie hj hkl hc.at_).2
  rw [hpl,this]
  simp [show¬a.k=0 by omega]
theorem Inv.same {p:wU} {m:qR} {s:qS} (h:Inv p m s):same p m s=true:=by
 have hs:=(yS p s).1 h.src
 have hl:m.codes.length=p.bods.length:=by rw [h.codes,wBx]
 have hc:=h.mok.cores
 unfold Go.Sep.same
 rw [h.prog,(jV m).2 h.mok,h.src,decide_eq_true (show m.cores.length=s.ths.length by omega),decide_eq_true h.tr]
 have h1:(List.range m.cores.length).all (fun i=>nM p m s i)=true:=by
  rw [oE]
  exact fun i hi=>qGl h hi
 have h2:(List.range p.caps.length).all (fun n=>qFa p m s n)=true:=by
  rw [oE]
  intro n hn
  obtain ⟨g1,g2,g3⟩:=qK0 h hn
  unfold qFa
  have hw:qV (n:Int) 0 ((p.caps.length:Int)-1)=true:=by rw [qK]; omega
  rw [hw,decide_eq_true (show (n:Int)<s.chs.length by omega)]
  rcases h.chan hn with hk | ⟨hk,hc⟩
  ·rw [hk]; rfl
  ·rw [hk,hc,wBl]
   show (false||(true&&decide ((chn s n).cap=(chn s n).cap)&&decide ((chn s n).list=(chn s n).list)&&decide ((chn s n).closed=(chn s n).closed)))=true
   simp
 rw [h1,h2]
 rfl
end Go.Sep
