/- Contracts of functions. -/
import Derived.Test.YtfecojefbnnknaaTxx11
open Bool renaming and_eq_true → qZ8, or_eq_true → qZj
open Int renaming eq_ofNat_of_zero_le → wB8, toNat_natCast → wAz
open List renaming getD_eq_getElem?_getD → qZa, getElem?_append_left → qZn, getElem?_append_right → qYy, length_append → qZo, length_map → wB9, length_set → wAp, replicate → qZ2, take_length → wB7, take_of_length_le → qZh, take_succ_cons → wB6
open Nat renaming le_refl → qZ7
namespace Go.Sep
set_option maxHeartbeats 16000000
open Go.Proofs
set_option linter.unusedSimpArgs false
set_option linter.unusedVariables false
set_option maxRecDepth 100000
structure So where
 k:Nat
 low:List Int
 t4:Int
 t5:Int
 t6:Int
 t7:Int
 fst:Int
 cnt:Int
 cls:Int
 dat:List Int
 hold:Bool
def So.get (s:So) (r:Int):Int:=if r<4 then s.low.getD r.toNat 0 else if r=4 then s.t4 else if r=5 then s.t5 else if r=6 then s.t6 else s.t7
def So.put (s:So) (r v:Int):So:=if r<4 then {s with low:=s.low.set r.toNat v} else if r=4 then {s with t4:=v} else if r=5 then {s with t5:=v} else if r=6 then {s with t6:=v} else {s with t7:=v}
def So.to (s:So) (k:Nat):So:={s with k:=k}
inductive jA where
 | go (s:So)
 | stop (s:So)
 | bad
def gF (b:Int) (t:yU) (s:So):jA :=
 if t.a=-1 then
  if t.n=b+1 then .go ((s.put t.r s.fst).to (s.k+1)) else if t.n=b+2 then .go ((s.put t.r s.cnt).to (s.k+1)) else if t.n=b+3 then .go ((s.put t.r s.cls).to (s.k+1)) else .bad
 else if t.n=b+4∧0≤t.a∧0≤s.get t.a∧(s.get t.a).toNat<s.dat.length then .go ((s.put t.r (s.dat.getD (s.get t.a).toNat 0)).to (s.k+1)) else .bad
def gE (b:Int) (t:yU) (s:So):jA :=
 if t.a=-1 then
  if t.n=b+1 then .go ({s with fst:=s.get t.b}.to (s.k+1)) else if t.n=b+2 then .go ({s with cnt:=s.get t.b}.to (s.k+1)) else if t.n=b+3 then .go ({s with cls:=s.get t.b}.to (s.k+1)) else .bad
 else if t.n=b+4∧0≤t.a∧0≤s.get t.a∧(s.get t.a).toNat<s.dat.length then .go ({s with dat:=s.dat.set (s.get t.a).toNat (s.get t.b)}.to (s.k+1)) else .bad
def uI (b:Int) (t:yU) (s:So):jA:=if t.a=-1∧t.n=b∧s.get t.b=0 then .go ({s with hold:=false}.to (s.k+1)) else .bad
def vK (b:Int) (t:yU) (s:So):jA:=if t.op=5 then gF b t s else if t.op=6 then gE b t s else if t.op=7 then uI b t s else .bad
def jQ (f b:Int) (t:yU) (s:So):jA :=
 if t.op=1 then .go ((s.put t.r t.n).to (s.k+1))
 else if t.op=2 then .go ((s.put t.r (IntKind.i64.wrap (s.get t.a+s.get t.b))).to (s.k+1))
 else if t.op=3 then .go ((s.put t.r (IntKind.i64.wrap (s.get t.a-s.get t.b))).to (s.k+1))
 else if t.op=4 then .go ((s.put t.r (uK (decide (s.get t.a<s.get t.b)))).to (s.k+1))
 else if t.op=10 then (if f≤t.n then .go (s.to (t.n-f).toNat) else .bad)
 else if t.op=11 then (if f≤t.n then .go (s.to (if s.get t.a=0 then (t.n-f).toNat else s.k+1)) else .bad)
 else if t.op=13 then .stop s
 else if s.hold=false then .bad
 else vK b t s
theorem kU {b:Int} {t:yU} {s s':So}:vK b t s≠.stop s':=by
 unfold vK gF gE uI
 intro h
 repeat' split at h
 all_goals cases h
def So.settled (sz:Nat) (s:So):Bool:=!s.hold&&(decide (s.k=0)||decide (s.k=sz))
def xE (f b:Int) (L:List yU):Nat→So→Option (So×Bool)
 | 0,s=>if s.settled L.length then some (s,false) else none
 | n+1,s =>
  if s.settled L.length then some (s,false)
  else if s.k<L.length then
   match jQ f b (L.getD s.k default) s with
   | .go s'=>if s.k<s'.k∨(s'.k=0∧s'.hold=false) then xE f b L n s' else none
   | .stop s'=>if s'.hold=false then some (s',true) else none
   | .bad=>none
  else none
theorem jP {f b:Int} {L:List yU} {n:Nat} {s:So} (h:s.settled L.length=true):xE f b L n s=some (s,false):=by
 cases n<;>simp [xE,h]
theorem qIo {f b:Int} {L:List yU} {n:Nat} {s s':So} {r:Option (So×Bool)} (h1:s.settled L.length=false) (h2:s.k<L.length) (h3:jQ f b (L.getD s.k default) s=.go s') (h4:s.k<s'.k∨(s'.k=0∧s'.hold=false)) (h5:xE f b L n s'=r):xE f b L (n+1) s=r:=by
 unfold xE
 rw [h1,if_neg (by decide),if_pos h2,h3]
 simp only
 rw [if_pos h4]
 exact h5
theorem qA1 {f b:Int} {L:List yU} {n:Nat} {s s':So} (h1:s.settled L.length=false) (h2:s.k<L.length) (h3:jQ f b (L.getD s.k default) s=.stop s') (h4:s'.hold=false):xE f b L (n+1) s=some (s',true):=by
 unfold xE
 rw [h1,if_neg (by decide),if_pos h2,h3]
 simp only
 rw [if_pos h4]
theorem aN {f b:Int} {L:List yU} {n:Nat} {s:So} {r:So×Bool} (h:xE f b L n s=some r) (hs:s.settled L.length=false) :
  s.k<L.length∧∃m,n=m+1∧((∃s',jQ f b (L.getD s.k default) s=.go s'∧(s.k<s'.k∨(s'.k=0∧s'.hold=false))∧xE f b L m s'=some r)∨(∃s',jQ f b (L.getD s.k default) s=.stop s'∧s'.hold=false∧r=(s',true))):=by
 cases n with
 | zero=>simp [xE,hs] at h
 | succ m =>
  unfold xE at h
  rw [hs,if_neg (by decide)] at h
  split at h
  ·rename_i hk
   refine ⟨hk,m,rfl,?_⟩
   cases h1:jQ f b (L.getD s.k default) s with
   | go s' =>
    rw [h1] at h
    simp only at h
    split at h
    ·rename_i h4
     exact .inl ⟨s',rfl,h4,h⟩
    ·exact absurd h (by simp)
   | stop s' =>
    rw [h1] at h
    simp only at h
    split at h
    ·rename_i h4
     exact .inr ⟨s',rfl,h4,by simpa using h.symm⟩
    ·exact absurd h (by simp)
   | bad =>
    rw [h1] at h
    exact absurd h (by simp)
  ·exact absurd h (by simp)
structure xR (s:So) (c:jN):Prop where
 cap:(s.dat.length:Int)=c.cap
 cap1:1≤c.cap
 cap4:c.cap≤4
 len:(c.list.length:Int)≤c.cap
 fst0:0≤s.fst
 fst1:s.fst<c.cap
 cnt:s.cnt=c.list.length
 cls:s.cls=uK c.closed
 at_ :∀j:Nat,j<c.list.length→c.list.getD j 0=s.dat.getD ((s.fst+j)%c.cap).toNat 0
def vA (f b c:Int) (x:Ins):List yU:=cW f b++(if x.op=5∨x.op=7 then rZ f b c x else if x.op=6∨x.op=8 then rP f b c x else lP f b)
structure qI7 (sz:Nat) (th:yJ) (ch:jN) (x:Ins) (s:So) (fl:Bool):Prop where
 flt:fl=true→(qW th ch x).2.2=false
 nxt:fl=false→s.k=sz→s.k≠0∧(qW th ch x).2.2=true∧s.low=(qW th ch x).1.regs
 wt:fl=false→s.k≠sz→s.k=0∧s.low=th.regs∧(x.op=5∨x.op=6)
 ch0:s.k=0→fl=false→xR s ch
 ch1:(s.k≠0∨fl=true)→xR s (qW th ch x).2.1
 wait:(s.k=0∧fl=false)↔(ch.closed=false∧((x.op=5∧(ch.list.length:Int)=ch.cap)∨(x.op=6∧(ch.list.length:Int)=0)))
 free:s.hold=false
theorem xR.same {s s':So} {c:jN} (h:xR s c) (h1:s'.dat=s.dat) (h2:s'.fst=s.fst) (h3:s'.cnt=s.cnt) (h4:s'.cls=s.cls):xR s' c:=by
 obtain ⟨a1,a2,a3,a4,a5,a6,a7,a8,a9⟩:=h
 exact ⟨by rw [h1]; exact a1,a2,a3,a4,by rw [h2]; exact a5,by rw [h2]; exact a6,by rw [h3]; exact a7,by rw [h4]; exact a8,by rw [h1,h2]; exact a9⟩
theorem iU {l:List Int} {i j:Nat} {v:Int} (hi:i<l.length):(l.set i v).getD j 0=if j=i then v else l.getD j 0:=by
 by_cases h:j=i
 ·subst h; simp [qZa,hi]
 ·rw [if_neg h]; simp [qZa,List.getElem?_set,show¬i=j from fun e=>h e.symm]
theorem qAx {c:Int} (h1:1≤c) (h4:c≤4):c=1∨c=2∨c=3∨c=4:=by omega
theorem qVv {c f n j i:Int} (h1:1≤c) (h4:c≤4) (f0:0≤f) (f1:f<c) (n1:n<c) (j0:0≤j) (j1:j<n) (hi:i=if f+n<c then f+n else f+n-c):(f+j)%c≠i:=by
 rcases qAx h1 h4 with rfl | rfl | rfl | rfl<;>split at hi<;>omega
theorem qVx {c f n i:Int} (h1:1≤c) (h4:c≤4) (f0:0≤f) (f1:f<c) (n0:0≤n) (n1:n<c) (hi:i=if f+n<c then f+n else f+n-c):(f+n)%c=i:=by
 rcases qAx h1 h4 with rfl | rfl | rfl | rfl<;>split at hi<;>omega
theorem qQo {c f j:Int} (h1:1≤c) (h4:c≤4) (f0:0≤f) (f1:f<c) (j0:0≤j):(f+(j+1))%c=((if f+1<c then f+1 else 0)+j)%c:=by
 rcases qAx h1 h4 with rfl | rfl | rfl | rfl<;>split<;>omega
theorem qVw {c f j:Int} (h1:1≤c):0≤(f+j)%c∧(f+j)%c<c:=⟨Int.emod_nonneg _ (by omega),Int.emod_lt_of_pos _ (by omega)⟩
theorem xR.send {s s':So} {c:jN} {v:Int} {i:Nat} (h:xR s c) (hl :¬(c.list.length:Int)=c.cap) (hi:(i:Int)=(if s.fst+s.cnt<c.cap then s.fst+s.cnt else s.fst+s.cnt-c.cap))
  (h1:s'.dat=s.dat.set i v) (h2:s'.fst=s.fst) (h3:s'.cnt=s.cnt+1) (h4:s'.cls=s.cls):xR s' {c with list:=c.list++[v]}:=by
 obtain ⟨a1,a2,a3,a4,a5,a6,a7,a8,a9⟩:=h
 have hil:i<s.dat.length:=by split at hi<;>omega
 refine ⟨by rw [h1,wAp]; exact a1,a2,a3,by simp; omega,by rw [h2]; exact a5,by rw [h2]; exact a6,by rw [h3,a7]; simp,by rw [h4]; exact a8,?_⟩
 intro j hj
 simp only [qZo,List.length_cons,List.length_nil] at hj
 rw [h1,h2,iU hil]
 by_cases hjl:j<c.list.length
 ·have h5:(c.list++[v]).getD j 0=c.list.getD j 0:=by simp [qZa,qZn hjl]
  rw [h5,a9 j hjl,if_neg]
  intro e
  simp only at e
  have:=qVv a2 a3 a5 a6 (n:=s.cnt) (j:=j) (by omega) (by omega) (by omega) hi
  have:=qVw (f:=s.fst) (j:=j) a2
  omega
 ·have hj':j=c.list.length:=by omega
  have h5:(c.list++[v]).getD j 0=v:=by rw [hj']; simp [qZa]
  rw [h5,if_pos]
  simp only
  have:=qVx a2 a3 a5 a6 (n:=s.cnt) (by omega) (by omega) hi
  rw [hj',←a7,this]
  simp
theorem xR.take {s s':So} {c:jN} (h:xR s c) (hl:0<c.list.length)
  (h1:s'.dat=s.dat) (h2:s'.fst=if s.fst+1<c.cap then s.fst+1 else 0) (h3:s'.cnt=s.cnt-1) (h4:s'.cls=s.cls):xR s' {c with list:=c.list.drop 1}:=by
 obtain ⟨a1,a2,a3,a4,a5,a6,a7,a8,a9⟩:=h
 refine ⟨by rw [h1]; exact a1,a2,a3,by simp; omega,by rw [h2]; split<;>omega,by rw [h2]; simp only; split<;>omega,by rw [h3,a7]; simp; omega,by rw [h4]; exact a8,?_⟩
 intro j hj
 simp only [List.length_drop] at hj
 have h5:(c.list.drop 1).getD j 0=c.list.getD (j+1) 0:=by simp [qZa,Nat.add_comm]
 simp only
 rw [h5,a9 (j+1) (by omega),h1,h2]
 congr 2
 have:=qQo a2 a3 a5 a6 (j:=j) (by omega)
 push_cast
 exact this
theorem xR.first {s:So} {c:jN} (h:xR s c) (hl:0<c.list.length):c.list.getD 0 0=s.dat.getD s.fst.toNat 0:=by
 have h0:=h.at_ 0 hl
 have h1:=h.fst0
 have h2:=h.fst1
 rw [h0]
 congr 1
 have:(s.fst+((0:Nat):Int))%c.cap=s.fst:=by rw [Int.natCast_zero,Int.add_zero]; exact Int.emod_eq_of_lt h1 h2
 rw [this]
structure Got (s:So) (th:yJ) (ch:jN):Prop where
 k:s.k=2
 low:s.low=th.regs
 len:th.regs.length=4
 t6:s.t6=0
 hold:s.hold=true
 rep:xR s ch
 ok:jJ ch=true
structure Op4 (x:Ins):Prop where
 r0:0≤x.r
 r1:x.r<4
 a0:0≤x.a
 a1:x.a<4
 b0:0≤x.b
 b1:x.b<4
def jA.nx:jA→So→So
 | .go s',_=>s'
 | _,s=>s
def jA.good:jA→So→Bool
 | .go s',s=>decide (s.k<s'.k)||(decide (s'.k=0)&&!s'.hold)
 | _,_=>false
def jA.ends:jA→Bool
 | .stop _=>true
 | _=>false
theorem gA {f b:Int} {L:List yU} {n:Nat} {s:So} (h1:s.settled L.length=false) (h2:s.k<L.length) (h3:(jQ f b (L.getD s.k default) s).good s=true):xE f b L (n+1) s=xE f b L n ((jQ f b (L.getD s.k default) s).nx s):=by
 cases h:jQ f b (L.getD s.k default) s with
 | go s' =>
  rw [h] at h3
  simp only [jA.good,qZj,qZ8,decide_eq_true_eq,Bool.not_eq_true'] at h3
  exact qIo h1 h2 h h3 rfl
 | stop s'=>rw [h] at h3; exact absurd h3 (by simp [jA.good])
 | bad=>rw [h] at h3; exact absurd h3 (by simp [jA.good])
theorem bZ {f b:Int} {L:List yU} {n:Nat} {s:So} (h1:s.settled L.length=false) (h2:s.k<L.length) (h3:(jQ f b (L.getD s.k default) s).ends=true) (h4:s.hold=false):xE f b L (n+1) s=some (s,true):=by
 cases h:jQ f b (L.getD s.k default) s with
 | go s'=>rw [h] at h3; exact absurd h3 (by simp [jA.ends])
 | stop s' =>
  have hs:s'=s:=by
   unfold jQ at h
   repeat' split at h
   all_goals (first | exact absurd h kU | (cases h; done) | (cases h; rfl))
  rw [hs] at h
  exact qA1 h1 h2 h h4
 | bad=>rw [h] at h3; exact absurd h3 (by simp [jA.ends])
theorem fle (f:Int) {n:Int} (h:0≤n):(f≤f+n)=True:=eq_true (by omega)
theorem mC (f n:Int):f+n-f=n:=by omega
theorem qMt {f b:Int} {x:Ins} {s:So} {th:yJ} {ch:jN} (hx:x.op=9) (ho:Op4 x) (h:Got s th ch) :∃s' fl,xE f b (vA f b ch.cap x) 40 s=some (s',fl)∧qI7 13 th ch x s' fl:=by
 obtain ⟨h1,h2,h3,h4,h5,h6,h7⟩:=h
 obtain ⟨r0,r1,a0,a1,b0,b1⟩:=ho
 obtain ⟨k,low,t4,t5,t6,t7,fst,cnt,cls,dat,hold⟩:=s
 simp only at h1 h2 h4 h5
 subst h1 h2 h4 h5
 obtain ⟨c,lst,cl⟩:=ch
 have H:=h6
 obtain ⟨e1,e2,e3,e4,e5,e6,e7,e8,e9⟩:=h6
 simp only at e1 e2 e3 e4 e5 e6 e7 e8 e9
 have hL:vA f b c x=[⟨1,7,0,0,1⟩,⟨8,6,0,7,b⟩,⟨11,0,6,0,f+4⟩,⟨10,0,0,0,f⟩,⟨5,4,-1,0,b+3⟩,⟨11,0,4,0,f+9⟩,⟨1,7,0,0,0⟩,⟨7,0,-1,7,b⟩,⟨13,0,0,0,0⟩,⟨1,7,0,0,1⟩,⟨6,0,-1,7,b+3⟩,⟨1,7,0,0,0⟩,⟨7,0,-1,7,b⟩]:=by simp [vA,cW,rZ,rP,lP,mK,pB,uK,hx]
 generalize vA f b c x=L at hL⊢
 have hlen:L.length=13:=by rw [hL]; rfl
 have g2:L.getD 2 default=⟨11,0,6,0,f+4⟩:=by rw [hL]; rfl
 have g3:L.getD 3 default=⟨10,0,0,0,f⟩:=by rw [hL]; rfl
 have g4:L.getD 4 default=⟨5,4,-1,0,b+3⟩:=by rw [hL]; rfl
 have g5:L.getD 5 default=⟨11,0,4,0,f+9⟩:=by rw [hL]; rfl
 have g6:L.getD 6 default=⟨1,7,0,0,0⟩:=by rw [hL]; rfl
 have g7:L.getD 7 default=⟨7,0,-1,7,b⟩:=by rw [hL]; rfl
 have g8:L.getD 8 default=⟨13,0,0,0,0⟩:=by rw [hL]; rfl
 have g9:L.getD 9 default=⟨1,7,0,0,1⟩:=by rw [hL]; rfl
 have g10:L.getD 10 default=⟨6,0,-1,7,b+3⟩:=by rw [hL]; rfl
 have g11:L.getD 11 default=⟨1,7,0,0,0⟩:=by rw [hL]; rfl
 have g12:L.getD 12 default=⟨7,0,-1,7,b⟩:=by rw [hL]; rfl
 clear hL
 have hst:qW th ⟨c,lst,cl⟩ x=(th,(vG ⟨c,lst,cl⟩).1,!decide ((vG ⟨c,lst,cl⟩).2=2)):=by unfold qW; rw [if_neg (by omega),if_neg (by omega)]
 cases cl
 ·have e8':cls=0:=e8
  subst e8'
  have hc:vG ⟨c,lst,false⟩=(⟨c,lst,true⟩,0):=by unfold vG; rw [h7]; rfl
  rw [hc] at hst
  simp [gA,bZ,jP,jA.nx,jA.good,jA.ends,jQ,vK,gF,gE,uI,So.settled,So.get,So.put,So.to,fle,mC,uK,hlen,-qZa,g2,g3,g4,g5,g6,g7,g8,g9,g10,g11,g12]
  exact ⟨fun e=>absurd e (by simp),fun _ _=>⟨by simp,by rw [hst]; rfl,by rw [hst]⟩,fun _ e=>absurd rfl e,fun e=>absurd e (by simp),fun _=>by rw [hst]; exact ⟨e1,e2,e3,e4,e5,e6,e7,rfl,e9⟩,⟨fun e=>absurd e.1 (by simp),fun e=>by omega⟩,rfl⟩
 ·have e8':cls=1:=e8
  subst e8'
  have hc:vG ⟨c,lst,true⟩=(⟨c,lst,true⟩,2):=by unfold vG; rfl
  rw [hc] at hst
  simp [gA,bZ,jP,jA.nx,jA.good,jA.ends,jQ,vK,gF,gE,uI,So.settled,So.get,So.put,So.to,fle,mC,uK,hlen,-qZa,g2,g3,g4,g5,g6,g7,g8,g9,g10,g11,g12]
  exact ⟨fun _=>by rw [hst]; rfl,fun e=>absurd e (by simp),fun e=>absurd e (by simp),fun e=>absurd e (by simp),fun _=>by rw [hst]; exact H.same rfl rfl rfl rfl,⟨fun e=>absurd e.1 (by simp),fun e=>by omega⟩,rfl⟩
theorem qQk {f b:Int} {x:Ins} {s:So} {th:yJ} {ch:jN} (hx:x.op=5) (ho:Op4 x) (h:Got s th ch) :∃s' fl,xE f b (vA f b ch.cap x) 40 s=some (s',fl)∧qI7 29 th ch x s' fl:=by
 obtain ⟨h1,h2,h3,h4,h5,h6,h7⟩:=h
 obtain ⟨r0,r1,a0,a1,b0,b1⟩:=ho
 obtain ⟨k,low,t4,t5,t6,t7,fst,cnt,cls,dat,hold⟩:=s
 simp only at h1 h2 h4 h5
 subst h1 h2 h4 h5
 obtain ⟨c,lst,cl⟩:=ch
 have H:=h6
 obtain ⟨e1,e2,e3,e4,e5,e6,e7,e8,e9⟩:=h6
 simp only at e1 e2 e3 e4 e5 e6 e7 e8 e9
 have hL:vA f b c x=[⟨1,7,0,0,1⟩,⟨8,6,0,7,b⟩,⟨11,0,6,0,f+4⟩,⟨10,0,0,0,f⟩,⟨5,4,-1,0,b+3⟩,⟨11,0,4,0,f+9⟩,⟨1,7,0,0,0⟩,⟨7,0,-1,7,b⟩,⟨13,0,0,0,0⟩,⟨5,5,-1,0,b+2⟩,⟨1,7,0,0,c⟩,⟨4,6,5,7,0⟩,⟨11,0,6,0,f+26⟩,⟨5,4,-1,0,b+1⟩,⟨2,4,4,5,0⟩,⟨4,6,4,7,0⟩,⟨11,0,6,0,f+18⟩,⟨10,0,0,0,f+19⟩,⟨3,4,4,7,0⟩,⟨6,0,4,x.a,b+4⟩,⟨1,7,0,0,1⟩,⟨2,5,5,7,0⟩,⟨6,0,-1,5,b+2⟩,⟨1,7,0,0,0⟩,⟨7,0,-1,7,b⟩,⟨10,0,0,0,f+29⟩,⟨1,7,0,0,0⟩,⟨7,0,-1,7,b⟩,⟨10,0,0,0,f⟩]:=by simp [vA,cW,rZ,rP,lP,mK,pB,uK,hx]
 generalize vA f b c x=L at hL⊢
 have hlen:L.length=29:=by rw [hL]; rfl
 have g2:L.getD 2 default=⟨11,0,6,0,f+4⟩:=by rw [hL]; rfl
 have g3:L.getD 3 default=⟨10,0,0,0,f⟩:=by rw [hL]; rfl
 have g4:L.getD 4 default=⟨5,4,-1,0,b+3⟩:=by rw [hL]; rfl
 have g5:L.getD 5 default=⟨11,0,4,0,f+9⟩:=by rw [hL]; rfl
 have g6:L.getD 6 default=⟨1,7,0,0,0⟩:=by rw [hL]; rfl
 have g7:L.getD 7 default=⟨7,0,-1,7,b⟩:=by rw [hL]; rfl
 have g8:L.getD 8 default=⟨13,0,0,0,0⟩:=by rw [hL]; rfl
 have g9:L.getD 9 default=⟨5,5,-1,0,b+2⟩:=by rw [hL]; rfl
 have g10:L.getD 10 default=⟨1,7,0,0,c⟩:=by rw [hL]; rfl
 have g11:L.getD 11 default=⟨4,6,5,7,0⟩:=by rw [hL]; rfl
 have g12:L.getD 12 default=⟨11,0,6,0,f+26⟩:=by rw [hL]; rfl
 have g13:L.getD 13 default=⟨5,4,-1,0,b+1⟩:=by rw [hL]; rfl
 have g14:L.getD 14 default=⟨2,4,4,5,0⟩:=by rw [hL]; rfl
 have g15:L.getD 15 default=⟨4,6,4,7,0⟩:=by rw [hL]; rfl
 have g16:L.getD 16 default=⟨11,0,6,0,f+18⟩:=by rw [hL]; rfl
 have g17:L.getD 17 default=⟨10,0,0,0,f+19⟩:=by rw [hL]; rfl
 have g18:L.getD 18 default=⟨3,4,4,7,0⟩:=by rw [hL]; rfl
 have g19:L.getD 19 default=⟨6,0,4,x.a,b+4⟩:=by rw [hL]; rfl
 have g20:L.getD 20 default=⟨1,7,0,0,1⟩:=by rw [hL]; rfl
 have g21:L.getD 21 default=⟨2,5,5,7,0⟩:=by rw [hL]; rfl
 have g22:L.getD 22 default=⟨6,0,-1,5,b+2⟩:=by rw [hL]; rfl
 have g23:L.getD 23 default=⟨1,7,0,0,0⟩:=by rw [hL]; rfl
 have g24:L.getD 24 default=⟨7,0,-1,7,b⟩:=by rw [hL]; rfl
 have g25:L.getD 25 default=⟨10,0,0,0,f+29⟩:=by rw [hL]; rfl
 have g26:L.getD 26 default=⟨1,7,0,0,0⟩:=by rw [hL]; rfl
 have g27:L.getD 27 default=⟨7,0,-1,7,b⟩:=by rw [hL]; rfl
 have g28:L.getD 28 default=⟨10,0,0,0,f⟩:=by rw [hL]; rfl
 clear hL
 have hst:qW th ⟨c,lst,cl⟩ x=(if x.op=7∧¬(yB ⟨c,lst,cl⟩ (reg th x.a)).2=2 then wU th x.r (uK (decide ((yB ⟨c,lst,cl⟩ (reg th x.a)).2=0))) else th,(yB ⟨c,lst,cl⟩ (reg th x.a)).1,!decide ((yB ⟨c,lst,cl⟩ (reg th x.a)).2=2)):=by unfold qW; rw [if_pos (by omega)]
 rw [hx] at hst
 have hv:th.regs.getD x.a.toNat 0=reg th x.a:=rfl
 cases cl
 ·have e8':cls=0:=e8
  subst e8'
  by_cases hful:(lst.length:Int)=c
  ·have hc:yB ⟨c,lst,false⟩ (reg th x.a)=(⟨c,lst,false⟩,1):=by unfold yB; rw [h7]; simp [hful]
   rw [hc] at hst
   have w1 :¬cnt<c:=by omega
   simp [gA,bZ,jP,jA.nx,jA.good,jA.ends,jQ,vK,gF,gE,uI,So.settled,So.get,So.put,So.to,fle,mC,uK,hlen,-qZa,g2,g3,g4,g5,g6,g7,g8,g9,g10,g11,g12,g13,g14,g15,g16,g17,g18,g19,g20,g21,g22,g23,g24,g25,g26,g27,g28,w1,r1]
   exact ⟨fun e=>absurd e (by simp),fun _ e=>absurd e (by simp),fun _ _=>⟨rfl,rfl,.inl hx⟩,fun _ _=>H.same rfl rfl rfl rfl,fun e=>by simp at e,⟨fun _=>⟨rfl,.inl ⟨hx,hful⟩⟩,fun _=>⟨rfl,rfl⟩⟩,rfl⟩
  ·have hc:yB ⟨c,lst,false⟩ (reg th x.a)=(⟨c,lst++[reg th x.a],false⟩,0):=by unfold yB; rw [h7]; simp [hful]
   rw [hc] at hst
   have w1:cnt<c:=by omega
   have w2:IntKind.i64.wrap (fst+cnt)=fst+cnt:=yQ (by omega) (by omega)
   have w3:IntKind.i64.wrap (fst+cnt-c)=fst+cnt-c:=yQ (by omega) (by omega)
   have w4:IntKind.i64.wrap (cnt+1)=cnt+1:=yQ (by omega) (by omega)
   by_cases hwr:fst+cnt<c
   ·have q1:0≤fst+cnt:=by omega
    have q2:(fst+cnt).toNat<dat.length:=by omega
    simp [gA,bZ,jP,jA.nx,jA.good,jA.ends,jQ,vK,gF,gE,uI,So.settled,So.get,So.put,So.to,fle,mC,uK,hlen,-qZa,g2,g3,g4,g5,g6,g7,g8,g9,g10,g11,g12,g13,g14,g15,g16,g17,g18,g19,g20,g21,g22,g23,g24,g25,g26,g27,g28,w1,w2,w3,w4,hwr,q1,q2,r1,a1,hv]
    refine ⟨fun e=>absurd e (by simp),fun _ _=>⟨by simp,by rw [hst]; rfl,by rw [hst]; rfl⟩,fun _ e=>absurd rfl e,fun e=>absurd e (by simp),fun _=>?_,⟨fun e=>absurd e.1 (by simp),fun e=>by rcases e.2 with e | e<;>simp only at e<;>omega⟩,rfl⟩
    rw [hst]
    exact H.send hful (by simp only; rw [if_pos hwr]; omega) rfl rfl rfl rfl
   ·have q1:c≤fst+cnt:=by omega
    have q2:(fst+cnt-c).toNat<dat.length:=by omega
    simp [gA,bZ,jP,jA.nx,jA.good,jA.ends,jQ,vK,gF,gE,uI,So.settled,So.get,So.put,So.to,fle,mC,uK,hlen,-qZa,g2,g3,g4,g5,g6,g7,g8,g9,g10,g11,g12,g13,g14,g15,g16,g17,g18,g19,g20,g21,g22,g23,g24,g25,g26,g27,g28,w1,w2,w3,w4,hwr,q1,q2,r1,a1,hv]
    refine ⟨fun e=>absurd e (by simp),fun _ _=>⟨by simp,by rw [hst]; rfl,by rw [hst]; rfl⟩,fun _ e=>absurd rfl e,fun e=>absurd e (by simp),fun _=>?_,⟨fun e=>absurd e.1 (by simp),fun e=>by rcases e.2 with e | e<;>simp only at e<;>omega⟩,rfl⟩
    rw [hst]
    exact H.send hful (by simp only; rw [if_neg hwr]; omega) rfl rfl rfl rfl
 ·have e8':cls=1:=e8
  subst e8'
  have hc:yB ⟨c,lst,true⟩ (reg th x.a)=(⟨c,lst,true⟩,2):=by unfold yB; rfl
  rw [hc] at hst
  simp [gA,bZ,jP,jA.nx,jA.good,jA.ends,jQ,vK,gF,gE,uI,So.settled,So.get,So.put,So.to,fle,mC,uK,hlen,-qZa,g2,g3,g4,g5,g6,g7,g8,g9,g10,g11,g12,g13,g14,g15,g16,g17,g18,g19,g20,g21,g22,g23,g24,g25,g26,g27,g28]
  exact ⟨fun _=>by rw [hst]; rfl,fun e=>absurd e (by simp),fun e=>absurd e (by simp),fun _ e=>absurd e (by simp),fun _=>by rw [hst]; exact H.same rfl rfl rfl rfl,⟨fun e=>absurd e.2 (by simp),fun e=>absurd e.1 (by simp)⟩,rfl⟩
theorem qIn {f b:Int} {x:Ins} {s:So} {th:yJ} {ch:jN} (hx:x.op=7) (ho:Op4 x) (h:Got s th ch) :∃s' fl,xE f b (vA f b ch.cap x) 40 s=some (s',fl)∧qI7 31 th ch x s' fl:=by
 obtain ⟨h1,h2,h3,h4,h5,h6,h7⟩:=h
 obtain ⟨r0,r1,a0,a1,b0,b1⟩:=ho
 obtain ⟨k,low,t4,t5,t6,t7,fst,cnt,cls,dat,hold⟩:=s
 simp only at h1 h2 h4 h5
 subst h1 h2 h4 h5
 obtain ⟨c,lst,cl⟩:=ch
 have H:=h6
 obtain ⟨e1,e2,e3,e4,e5,e6,e7,e8,e9⟩:=h6
 simp only at e1 e2 e3 e4 e5 e6 e7 e8 e9
 have hL:vA f b c x=[⟨1,7,0,0,1⟩,⟨8,6,0,7,b⟩,⟨11,0,6,0,f+4⟩,⟨10,0,0,0,f⟩,⟨5,4,-1,0,b+3⟩,⟨11,0,4,0,f+9⟩,⟨1,7,0,0,0⟩,⟨7,0,-1,7,b⟩,⟨13,0,0,0,0⟩,⟨5,5,-1,0,b+2⟩,⟨1,7,0,0,c⟩,⟨4,6,5,7,0⟩,⟨11,0,6,0,f+27⟩,⟨5,4,-1,0,b+1⟩,⟨2,4,4,5,0⟩,⟨4,6,4,7,0⟩,⟨11,0,6,0,f+18⟩,⟨10,0,0,0,f+19⟩,⟨3,4,4,7,0⟩,⟨6,0,4,x.a,b+4⟩,⟨1,7,0,0,1⟩,⟨2,5,5,7,0⟩,⟨6,0,-1,5,b+2⟩,⟨1,7,0,0,0⟩,⟨7,0,-1,7,b⟩,⟨1,x.r,0,0,1⟩,⟨10,0,0,0,f+31⟩,⟨1,7,0,0,0⟩,⟨7,0,-1,7,b⟩,⟨1,x.r,0,0,0⟩,⟨10,0,0,0,f+31⟩]:=by simp [vA,cW,rZ,rP,lP,mK,pB,uK,hx]
 generalize vA f b c x=L at hL⊢
 have hlen:L.length=31:=by rw [hL]; rfl
 have g2:L.getD 2 default=⟨11,0,6,0,f+4⟩:=by rw [hL]; rfl
 have g3:L.getD 3 default=⟨10,0,0,0,f⟩:=by rw [hL]; rfl
 have g4:L.getD 4 default=⟨5,4,-1,0,b+3⟩:=by rw [hL]; rfl
 have g5:L.getD 5 default=⟨11,0,4,0,f+9⟩:=by rw [hL]; rfl
 have g6:L.getD 6 default=⟨1,7,0,0,0⟩:=by rw [hL]; rfl
 have g7:L.getD 7 default=⟨7,0,-1,7,b⟩:=by rw [hL]; rfl
 have g8:L.getD 8 default=⟨13,0,0,0,0⟩:=by rw [hL]; rfl
 have g9:L.getD 9 default=⟨5,5,-1,0,b+2⟩:=by rw [hL]; rfl
 have g10:L.getD 10 default=⟨1,7,0,0,c⟩:=by rw [hL]; rfl
 have g11:L.getD 11 default=⟨4,6,5,7,0⟩:=by rw [hL]; rfl
 have g12:L.getD 12 default=⟨11,0,6,0,f+27⟩:=by rw [hL]; rfl
 have g13:L.getD 13 default=⟨5,4,-1,0,b+1⟩:=by rw [hL]; rfl
 have g14:L.getD 14 default=⟨2,4,4,5,0⟩:=by rw [hL]; rfl
 have g15:L.getD 15 default=⟨4,6,4,7,0⟩:=by rw [hL]; rfl
 have g16:L.getD 16 default=⟨11,0,6,0,f+18⟩:=by rw [hL]; rfl
 have g17:L.getD 17 default=⟨10,0,0,0,f+19⟩:=by rw [hL]; rfl
 have g18:L.getD 18 default=⟨3,4,4,7,0⟩:=by rw [hL]; rfl
 have g19:L.getD 19 default=⟨6,0,4,x.a,b+4⟩:=by rw [hL]; rfl
 have g20:L.getD 20 default=⟨1,7,0,0,1⟩:=by rw [hL]; rfl
 have g21:L.getD 21 default=⟨2,5,5,7,0⟩:=by rw [hL]; rfl
 have g22:L.getD 22 default=⟨6,0,-1,5,b+2⟩:=by rw [hL]; rfl
 have g23:L.getD 23 default=⟨1,7,0,0,0⟩:=by rw [hL]; rfl
 have g24:L.getD 24 default=⟨7,0,-1,7,b⟩:=by rw [hL]; rfl
 have g25:L.getD 25 default=⟨1,x.r,0,0,1⟩:=by rw [hL]; rfl
 have g26:L.getD 26 default=⟨10,0,0,0,f+31⟩:=by rw [hL]; rfl
 have g27:L.getD 27 default=⟨1,7,0,0,0⟩:=by rw [hL]; rfl
 have g28:L.getD 28 default=⟨7,0,-1,7,b⟩:=by rw [hL]; rfl
 have g29:L.getD 29 default=⟨1,x.r,0,0,0⟩:=by rw [hL]; rfl
 have g30:L.getD 30 default=⟨10,0,0,0,f+31⟩:=by rw [hL]; rfl
 clear hL
 have hst:qW th ⟨c,lst,cl⟩ x=(if x.op=7∧¬(yB ⟨c,lst,cl⟩ (reg th x.a)).2=2 then wU th x.r (uK (decide ((yB ⟨c,lst,cl⟩ (reg th x.a)).2=0))) else th,(yB ⟨c,lst,cl⟩ (reg th x.a)).1,!decide ((yB ⟨c,lst,cl⟩ (reg th x.a)).2=2)):=by unfold qW; rw [if_pos (by omega)]
 rw [hx] at hst
 have hv:th.regs.getD x.a.toNat 0=reg th x.a:=rfl
 cases cl
 ·have e8':cls=0:=e8
  subst e8'
  by_cases hful:(lst.length:Int)=c
  ·have hc:yB ⟨c,lst,false⟩ (reg th x.a)=(⟨c,lst,false⟩,1):=by unfold yB; rw [h7]; simp [hful]
   rw [hc] at hst
   have w1 :¬cnt<c:=by omega
   simp [gA,bZ,jP,jA.nx,jA.good,jA.ends,jQ,vK,gF,gE,uI,So.settled,So.get,So.put,So.to,fle,mC,uK,hlen,-qZa,g2,g3,g4,g5,g6,g7,g8,g9,g10,g11,g12,g13,g14,g15,g16,g17,g18,g19,g20,g21,g22,g23,g24,g25,g26,g27,g28,g29,g30,w1,r1]
   exact ⟨fun e=>absurd e (by simp),fun _ _=>⟨by simp,by rw [hst]; rfl,by rw [hst]; rfl⟩,fun _ e=>absurd rfl e,fun e=>absurd e (by simp),fun _=>by rw [hst]; exact H.same rfl rfl rfl rfl,⟨fun e=>absurd e.1 (by simp),fun e=>by omega⟩,rfl⟩
  ·have hc:yB ⟨c,lst,false⟩ (reg th x.a)=(⟨c,lst++[reg th x.a],false⟩,0):=by unfold yB; rw [h7]; simp [hful]
   rw [hc] at hst
   have w1:cnt<c:=by omega
   have w2:IntKind.i64.wrap (fst+cnt)=fst+cnt:=yQ (by omega) (by omega)
   have w3:IntKind.i64.wrap (fst+cnt-c)=fst+cnt-c:=yQ (by omega) (by omega)
   have w4:IntKind.i64.wrap (cnt+1)=cnt+1:=yQ (by omega) (by omega)
   by_cases hwr:fst+cnt<c
   ·have q1:0≤fst+cnt:=by omega
    have q2:(fst+cnt).toNat<dat.length:=by omega
    simp [gA,bZ,jP,jA.nx,jA.good,jA.ends,jQ,vK,gF,gE,uI,So.settled,So.get,So.put,So.to,fle,mC,uK,hlen,-qZa,g2,g3,g4,g5,g6,g7,g8,g9,g10,g11,g12,g13,g14,g15,g16,g17,g18,g19,g20,g21,g22,g23,g24,g25,g26,g27,g28,g29,g30,w1,w2,w3,w4,hwr,q1,q2,r1,a1,hv]
    refine ⟨fun e=>absurd e (by simp),fun _ _=>⟨by simp,by rw [hst]; rfl,by rw [hst]; rfl⟩,fun _ e=>absurd rfl e,fun e=>absurd e (by simp),fun _=>?_,⟨fun e=>absurd e.1 (by simp),fun e=>by rcases e.2 with e | e<;>simp only at e<;>omega⟩,rfl⟩
    rw [hst]
    exact H.send hful (by simp only; rw [if_pos hwr]; omega) rfl rfl rfl rfl
   ·have q1:c≤fst+cnt:=by omega
    have q2:(fst+cnt-c).toNat<dat.length:=by omega
    simp [gA,bZ,jP,jA.nx,jA.good,jA.ends,jQ,vK,gF,gE,uI,So.settled,So.get,So.put,So.to,fle,mC,uK,hlen,-qZa,g2,g3,g4,g5,g6,g7,g8,g9,g10,g11,g12,g13,g14,g15,g16,g17,g18,g19,g20,g21,g22,g23,g24,g25,g26,g27,g28,g29,g30,w1,w2,w3,w4,hwr,q1,q2,r1,a1,hv]
    refine ⟨fun e=>absurd e (by simp),fun _ _=>⟨by simp,by rw [hst]; rfl,by rw [hst]; rfl⟩,fun _ e=>absurd rfl e,fun e=>absurd e (by simp),fun _=>?_,⟨fun e=>absurd e.1 (by simp),fun e=>by rcases e.2 with e | e<;>simp only at e<;>omega⟩,rfl⟩
    rw [hst]
    exact H.send hful (by simp only; rw [if_neg hwr]; omega) rfl rfl rfl rfl
 ·have e8':cls=1:=e8
  subst e8'
  have hc:yB ⟨c,lst,true⟩ (reg th x.a)=(⟨c,lst,true⟩,2):=by unfold yB; rfl
  rw [hc] at hst
  simp [gA,bZ,jP,jA.nx,jA.good,jA.ends,jQ,vK,gF,gE,uI,So.settled,So.get,So.put,So.to,fle,mC,uK,hlen,-qZa,g2,g3,g4,g5,g6,g7,g8,g9,g10,g11,g12,g13,g14,g15,g16,g17,g18,g19,g20,g21,g22,g23,g24,g25,g26,g27,g28,g29,g30]
  exact ⟨fun _=>by rw [hst]; rfl,fun e=>absurd e (by simp),fun e=>absurd e (by simp),fun _ e=>absurd e (by simp),fun _=>by rw [hst]; exact H.same rfl rfl rfl rfl,⟨fun e=>absurd e.2 (by simp),fun e=>absurd e.1 (by simp)⟩,rfl⟩
theorem qQj {f b:Int} {x:Ins} {s:So} {th:yJ} {ch:jN} (hx:x.op=6) (ho:Op4 x) (h:Got s th ch) (hne:x.r≠x.b) :∃s' fl,xE f b (vA f b ch.cap x) 40 s=some (s',fl)∧qI7 30 th ch x s' fl:=by
 obtain ⟨h1,h2,h3,h4,h5,h6,h7⟩:=h
 obtain ⟨r0,r1,a0,a1,b0,b1⟩:=ho
 obtain ⟨k,low,t4,t5,t6,t7,fst,cnt,cls,dat,hold⟩:=s
 simp only at h1 h2 h4 h5
 subst h1 h2 h4 h5
 obtain ⟨c,lst,cl⟩:=ch
 have H:=h6
 obtain ⟨e1,e2,e3,e4,e5,e6,e7,e8,e9⟩:=h6
 simp only at e1 e2 e3 e4 e5 e6 e7 e8 e9
 have hL:vA f b c x=[⟨1,7,0,0,1⟩,⟨8,6,0,7,b⟩,⟨11,0,6,0,f+4⟩,⟨10,0,0,0,f⟩,⟨5,5,-1,0,b+2⟩,⟨11,0,5,0,f+22⟩,⟨5,4,-1,0,b+1⟩,⟨5,x.r,4,0,b+4⟩,⟨1,7,0,0,1⟩,⟨2,4,4,7,0⟩,⟨3,5,5,7,0⟩,⟨1,7,0,0,c⟩,⟨4,6,4,7,0⟩,⟨11,0,6,0,f+15⟩,⟨10,0,0,0,f+16⟩,⟨1,4,0,0,0⟩,⟨6,0,-1,4,b+1⟩,⟨6,0,-1,5,b+2⟩,⟨1,7,0,0,0⟩,⟨7,0,-1,7,b⟩,⟨1,x.b,0,0,1⟩,⟨10,0,0,0,f+30⟩,⟨5,4,-1,0,b+3⟩,⟨1,7,0,0,0⟩,⟨7,0,-1,7,b⟩,⟨11,0,4,0,f+29⟩,⟨1,x.r,0,0,0⟩,⟨1,x.b,0,0,0⟩,⟨10,0,0,0,f+30⟩,⟨10,0,0,0,f⟩]:=by simp [vA,cW,rZ,rP,lP,mK,pB,uK,hx]
 generalize vA f b c x=L at hL⊢
 have hlen:L.length=30:=by rw [hL]; rfl
 have g2:L.getD 2 default=⟨11,0,6,0,f+4⟩:=by rw [hL]; rfl
 have g3:L.getD 3 default=⟨10,0,0,0,f⟩:=by rw [hL]; rfl
 have g4:L.getD 4 default=⟨5,5,-1,0,b+2⟩:=by rw [hL]; rfl
 have g5:L.getD 5 default=⟨11,0,5,0,f+22⟩:=by rw [hL]; rfl
 have g6:L.getD 6 default=⟨5,4,-1,0,b+1⟩:=by rw [hL]; rfl
 have g7:L.getD 7 default=⟨5,x.r,4,0,b+4⟩:=by rw [hL]; rfl
 have g8:L.getD 8 default=⟨1,7,0,0,1⟩:=by rw [hL]; rfl
 have g9:L.getD 9 default=⟨2,4,4,7,0⟩:=by rw [hL]; rfl
 have g10:L.getD 10 default=⟨3,5,5,7,0⟩:=by rw [hL]; rfl
 have g11:L.getD 11 default=⟨1,7,0,0,c⟩:=by rw [hL]; rfl
 have g12:L.getD 12 default=⟨4,6,4,7,0⟩:=by rw [hL]; rfl
 have g13:L.getD 13 default=⟨11,0,6,0,f+15⟩:=by rw [hL]; rfl
 have g14:L.getD 14 default=⟨10,0,0,0,f+16⟩:=by rw [hL]; rfl
 have g15:L.getD 15 default=⟨1,4,0,0,0⟩:=by rw [hL]; rfl
 have g16:L.getD 16 default=⟨6,0,-1,4,b+1⟩:=by rw [hL]; rfl
 have g17:L.getD 17 default=⟨6,0,-1,5,b+2⟩:=by rw [hL]; rfl
 have g18:L.getD 18 default=⟨1,7,0,0,0⟩:=by rw [hL]; rfl
 have g19:L.getD 19 default=⟨7,0,-1,7,b⟩:=by rw [hL]; rfl
 have g20:L.getD 20 default=⟨1,x.b,0,0,1⟩:=by rw [hL]; rfl
 have g21:L.getD 21 default=⟨10,0,0,0,f+30⟩:=by rw [hL]; rfl
 have g22:L.getD 22 default=⟨5,4,-1,0,b+3⟩:=by rw [hL]; rfl
 have g23:L.getD 23 default=⟨1,7,0,0,0⟩:=by rw [hL]; rfl
 have g24:L.getD 24 default=⟨7,0,-1,7,b⟩:=by rw [hL]; rfl
 have g25:L.getD 25 default=⟨11,0,4,0,f+29⟩:=by rw [hL]; rfl
 have g26:L.getD 26 default=⟨1,x.r,0,0,0⟩:=by rw [hL]; rfl
 have g27:L.getD 27 default=⟨1,x.b,0,0,0⟩:=by rw [hL]; rfl
 have g28:L.getD 28 default=⟨10,0,0,0,f+30⟩:=by rw [hL]; rfl
 have g29:L.getD 29 default=⟨10,0,0,0,f⟩:=by rw [hL]; rfl
 clear hL
 have hst:qW th ⟨c,lst,cl⟩ x=(if (wI ⟨c,lst,cl⟩).2.2=3∧x.op=8 then wU (wU (wU th x.r (wI ⟨c,lst,cl⟩).2.1) x.b (uK (decide ((wI ⟨c,lst,cl⟩).2.2=0)))) x.b 2 else wU (wU th x.r (wI ⟨c,lst,cl⟩).2.1) x.b (uK (decide ((wI ⟨c,lst,cl⟩).2.2=0))),(wI ⟨c,lst,cl⟩).1,!decide ((wI ⟨c,lst,cl⟩).2.2=2)):=by unfold qW; rw [if_neg (by omega),if_pos (by omega)]
 rw [hx] at hst
 by_cases hemp:0<lst.length
 ·have hc:wI ⟨c,lst,cl⟩=(⟨c,lst.drop 1,cl⟩,lst.getD 0 0,0):=by unfold wI; rw [h7]; simp [hemp,-qZa]
  rw [hc] at hst
  have hfi:=H.first hemp
  simp only at hfi
  rw [hfi] at hst
  have w1 :¬cnt=0:=by omega
  have w2:IntKind.i64.wrap (fst+1)=fst+1:=yQ (by omega) (by omega)
  have w3:IntKind.i64.wrap (cnt-1)=cnt-1:=yQ (by omega) (by omega)
  have q2:fst.toNat<dat.length:=by omega
  by_cases hwr:fst+1<c
  ·simp [gA,bZ,jP,jA.nx,jA.good,jA.ends,jQ,vK,gF,gE,uI,So.settled,So.get,So.put,So.to,fle,mC,uK,hlen,-qZa,g2,g3,g4,g5,g6,g7,g8,g9,g10,g11,g12,g13,g14,g15,g16,g17,g18,g19,g20,g21,g22,g23,g24,g25,g26,g27,g28,g29,w1,w2,w3,hwr,e5,q2,r1,b1]
   refine ⟨fun e=>absurd e (by simp),fun _ _=>⟨by simp,by rw [hst]; rfl,by rw [hst]; rfl⟩,fun _ e=>absurd rfl e,fun e=>absurd e (by simp),fun _=>?_,⟨fun e=>absurd e.1 (by simp),fun e=>by rcases e.2 with e | e<;>simp only at e<;>omega⟩,rfl⟩
   rw [hst]
   exact H.take hemp rfl (by simp only; rw [if_pos hwr]) rfl rfl
  ·simp [gA,bZ,jP,jA.nx,jA.good,jA.ends,jQ,vK,gF,gE,uI,So.settled,So.get,So.put,So.to,fle,mC,uK,hlen,-qZa,g2,g3,g4,g5,g6,g7,g8,g9,g10,g11,g12,g13,g14,g15,g16,g17,g18,g19,g20,g21,g22,g23,g24,g25,g26,g27,g28,g29,w1,w2,w3,hwr,e5,q2,r1,b1]
   refine ⟨fun e=>absurd e (by simp),fun _ _=>⟨by simp,by rw [hst]; rfl,by rw [hst]; rfl⟩,fun _ e=>absurd rfl e,fun e=>absurd e (by simp),fun _=>?_,⟨fun e=>absurd e.1 (by simp),fun e=>by rcases e.2 with e | e<;>simp only at e<;>omega⟩,rfl⟩
   rw [hst]
   exact H.take hemp rfl (by simp only; rw [if_neg hwr]) rfl rfl
 have w1:cnt=0:=by omega
 subst w1
 have hlz:lst.length=0:=by omega
 cases cl
 ·have e8':cls=0:=e8
  subst e8'
  have hc:wI ⟨c,lst,false⟩=(⟨c,lst,false⟩,0,1):=by unfold wI; rw [h7]; simp [hlz]
  rw [hc] at hst
  simp [gA,bZ,jP,jA.nx,jA.good,jA.ends,jQ,vK,gF,gE,uI,So.settled,So.get,So.put,So.to,fle,mC,uK,hlen,-qZa,g2,g3,g4,g5,g6,g7,g8,g9,g10,g11,g12,g13,g14,g15,g16,g17,g18,g19,g20,g21,g22,g23,g24,g25,g26,g27,g28,g29,r1,b1]
  exact ⟨fun e=>absurd e (by simp),fun _ e=>absurd e (by simp),fun _ _=>⟨rfl,rfl,.inr hx⟩,fun _ _=>H.same rfl rfl rfl rfl,fun e=>by simp at e,⟨fun _=>⟨rfl,.inr ⟨hx,by simp only; omega⟩⟩,fun _=>⟨rfl,rfl⟩⟩,rfl⟩
 ·have e8':cls=1:=e8
  subst e8'
  have hc:wI ⟨c,lst,true⟩=(⟨c,lst,true⟩,0,3):=by unfold wI; rw [h7]; simp [hlz]
  rw [hc] at hst
  simp [gA,bZ,jP,jA.nx,jA.good,jA.ends,jQ,vK,gF,gE,uI,So.settled,So.get,So.put,So.to,fle,mC,uK,hlen,-qZa,g2,g3,g4,g5,g6,g7,g8,g9,g10,g11,g12,g13,g14,g15,g16,g17,g18,g19,g20,g21,g22,g23,g24,g25,g26,g27,g28,g29,r1,b1]
  refine ⟨fun e=>absurd e (by simp),fun _ _=>⟨by simp,by rw [hst]; rfl,?_⟩,fun _ e=>absurd rfl e,fun e=>absurd e (by simp),fun _=>by rw [hst]; exact H.same rfl rfl rfl rfl,⟨fun e=>absurd e.1 (by simp),fun e=>absurd e.1 (by simp)⟩,rfl⟩
  rw [hst]
  simp [wU,uK]
theorem qIm {f b:Int} {x:Ins} {s:So} {th:yJ} {ch:jN} (hx:x.op=8) (ho:Op4 x) (h:Got s th ch) (hne:x.r≠x.b) :∃s' fl,xE f b (vA f b ch.cap x) 40 s=some (s',fl)∧qI7 32 th ch x s' fl:=by
 obtain ⟨h1,h2,h3,h4,h5,h6,h7⟩:=h
 obtain ⟨r0,r1,a0,a1,b0,b1⟩:=ho
 obtain ⟨k,low,t4,t5,t6,t7,fst,cnt,cls,dat,hold⟩:=s
 simp only at h1 h2 h4 h5
 subst h1 h2 h4 h5
 obtain ⟨c,lst,cl⟩:=ch
 have H:=h6
 obtain ⟨e1,e2,e3,e4,e5,e6,e7,e8,e9⟩:=h6
 simp only at e1 e2 e3 e4 e5 e6 e7 e8 e9
 have hL:vA f b c x=[⟨1,7,0,0,1⟩,⟨8,6,0,7,b⟩,⟨11,0,6,0,f+4⟩,⟨10,0,0,0,f⟩,⟨5,5,-1,0,b+2⟩,⟨11,0,5,0,f+22⟩,⟨5,4,-1,0,b+1⟩,⟨5,x.r,4,0,b+4⟩,⟨1,7,0,0,1⟩,⟨2,4,4,7,0⟩,⟨3,5,5,7,0⟩,⟨1,7,0,0,c⟩,⟨4,6,4,7,0⟩,⟨11,0,6,0,f+15⟩,⟨10,0,0,0,f+16⟩,⟨1,4,0,0,0⟩,⟨6,0,-1,4,b+1⟩,⟨6,0,-1,5,b+2⟩,⟨1,7,0,0,0⟩,⟨7,0,-1,7,b⟩,⟨1,x.b,0,0,1⟩,⟨10,0,0,0,f+32⟩,⟨5,4,-1,0,b+3⟩,⟨1,7,0,0,0⟩,⟨7,0,-1,7,b⟩,⟨11,0,4,0,f+29⟩,⟨1,x.r,0,0,0⟩,⟨1,x.b,0,0,2⟩,⟨10,0,0,0,f+32⟩,⟨1,x.r,0,0,0⟩,⟨1,x.b,0,0,0⟩,⟨10,0,0,0,f+32⟩]:=by simp [vA,cW,rZ,rP,lP,mK,pB,uK,hx]
 generalize vA f b c x=L at hL⊢
 have hlen:L.length=32:=by rw [hL]; rfl
 have g2:L.getD 2 default=⟨11,0,6,0,f+4⟩:=by rw [hL]; rfl
 have g3:L.getD 3 default=⟨10,0,0,0,f⟩:=by rw [hL]; rfl
 have g4:L.getD 4 default=⟨5,5,-1,0,b+2⟩:=by rw [hL]; rfl
 have g5:L.getD 5 default=⟨11,0,5,0,f+22⟩:=by rw [hL]; rfl
 have g6:L.getD 6 default=⟨5,4,-1,0,b+1⟩:=by rw [hL]; rfl
 have g7:L.getD 7 default=⟨5,x.r,4,0,b+4⟩:=by rw [hL]; rfl
 have g8:L.getD 8 default=⟨1,7,0,0,1⟩:=by rw [hL]; rfl
 have g9:L.getD 9 default=⟨2,4,4,7,0⟩:=by rw [hL]; rfl
 have g10:L.getD 10 default=⟨3,5,5,7,0⟩:=by rw [hL]; rfl
 have g11:L.getD 11 default=⟨1,7,0,0,c⟩:=by rw [hL]; rfl
 have g12:L.getD 12 default=⟨4,6,4,7,0⟩:=by rw [hL]; rfl
 have g13:L.getD 13 default=⟨11,0,6,0,f+15⟩:=by rw [hL]; rfl
 have g14:L.getD 14 default=⟨10,0,0,0,f+16⟩:=by rw [hL]; rfl
 have g15:L.getD 15 default=⟨1,4,0,0,0⟩:=by rw [hL]; rfl
 have g16:L.getD 16 default=⟨6,0,-1,4,b+1⟩:=by rw [hL]; rfl
 have g17:L.getD 17 default=⟨6,0,-1,5,b+2⟩:=by rw [hL]; rfl
 have g18:L.getD 18 default=⟨1,7,0,0,0⟩:=by rw [hL]; rfl
 have g19:L.getD 19 default=⟨7,0,-1,7,b⟩:=by rw [hL]; rfl
 have g20:L.getD 20 default=⟨1,x.b,0,0,1⟩:=by rw [hL]; rfl
 have g21:L.getD 21 default=⟨10,0,0,0,f+32⟩:=by rw [hL]; rfl
 have g22:L.getD 22 default=⟨5,4,-1,0,b+3⟩:=by rw [hL]; rfl
 have g23:L.getD 23 default=⟨1,7,0,0,0⟩:=by rw [hL]; rfl
 have g24:L.getD 24 default=⟨7,0,-1,7,b⟩:=by rw [hL]; rfl
 have g25:L.getD 25 default=⟨11,0,4,0,f+29⟩:=by rw [hL]; rfl
 have g26:L.getD 26 default=⟨1,x.r,0,0,0⟩:=by rw [hL]; rfl
 have g27:L.getD 27 default=⟨1,x.b,0,0,2⟩:=by rw [hL]; rfl
 have g28:L.getD 28 default=⟨10,0,0,0,f+32⟩:=by rw [hL]; rfl
 have g29:L.getD 29 default=⟨1,x.r,0,0,0⟩:=by rw [hL]; rfl
 have g30:L.getD 30 default=⟨1,x.b,0,0,0⟩:=by rw [hL]; rfl
 have g31:L.getD 31 default=⟨10,0,0,0,f+32⟩:=by rw [hL]; rfl
 clear hL
 have hst:qW th ⟨c,lst,cl⟩ x=(if (wI ⟨c,lst,cl⟩).2.2=3∧x.op=8 then wU (wU (wU th x.r (wI ⟨c,lst,cl⟩).2.1) x.b (uK (decide ((wI ⟨c,lst,cl⟩).2.2=0)))) x.b 2 else wU (wU th x.r (wI ⟨c,lst,cl⟩).2.1) x.b (uK (decide ((wI ⟨c,lst,cl⟩).2.2=0))),(wI ⟨c,lst,cl⟩).1,!decide ((wI ⟨c,lst,cl⟩).2.2=2)):=by unfold qW; rw [if_neg (by omega),if_pos (by omega)]
 rw [hx] at hst
 by_cases hemp:0<lst.length
 ·have hc:wI ⟨c,lst,cl⟩=(⟨c,lst.drop 1,cl⟩,lst.getD 0 0,0):=by unfold wI; rw [h7]; simp [hemp,-qZa]
  rw [hc] at hst
  have hfi:=H.first hemp
  simp only at hfi
  rw [hfi] at hst
  have w1 :¬cnt=0:=by omega
  have w2:IntKind.i64.wrap (fst+1)=fst+1:=yQ (by omega) (by omega)
  have w3:IntKind.i64.wrap (cnt-1)=cnt-1:=yQ (by omega) (by omega)
  have q2:fst.toNat<dat.length:=by omega
  by_cases hwr:fst+1<c
  ·simp [gA,bZ,jP,jA.nx,jA.good,jA.ends,jQ,vK,gF,gE,uI,So.settled,So.get,So.put,So.to,fle,mC,uK,hlen,-qZa,g2,g3,g4,g5,g6,g7,g8,g9,g10,g11,g12,g13,g14,g15,g16,g17,g18,g19,g20,g21,g22,g23,g24,g25,g26,g27,g28,g29,g30,g31,w1,w2,w3,hwr,e5,q2,r1,b1]
   refine ⟨fun e=>absurd e (by simp),fun _ _=>⟨by simp,by rw [hst]; rfl,by rw [hst]; rfl⟩,fun _ e=>absurd rfl e,fun e=>absurd e (by simp),fun _=>?_,⟨fun e=>absurd e.1 (by simp),fun e=>by rcases e.2 with e | e<;>simp only at e<;>omega⟩,rfl⟩
   rw [hst]
   exact H.take hemp rfl (by simp only; rw [if_pos hwr]) rfl rfl
  ·simp [gA,bZ,jP,jA.nx,jA.good,jA.ends,jQ,vK,gF,gE,uI,So.settled,So.get,So.put,So.to,fle,mC,uK,hlen,-qZa,g2,g3,g4,g5,g6,g7,g8,g9,g10,g11,g12,g13,g14,g15,g16,g17,g18,g19,g20,g21,g22,g23,g24,g25,g26,g27,g28,g29,g30,g31,w1,w2,w3,hwr,e5,q2,r1,b1]
   refine ⟨fun e=>absurd e (by simp),fun _ _=>⟨by simp,by rw [hst]; rfl,by rw [hst]; rfl⟩,fun _ e=>absurd rfl e,fun e=>absurd e (by simp),fun _=>?_,⟨fun e=>absurd e.1 (by simp),fun e=>by rcases e.2 with e | e<;>simp only at e<;>omega⟩,rfl⟩
   rw [hst]
   exact H.take hemp rfl (by simp only; rw [if_neg hwr]) rfl rfl
 have w1:cnt=0:=by omega
 subst w1
 have hlz:lst.length=0:=by omega
 cases cl
 ·have e8':cls=0:=e8
  subst e8'
  have hc:wI ⟨c,lst,false⟩=(⟨c,lst,false⟩,0,1):=by unfold wI; rw [h7]; simp [hlz]
  rw [hc] at hst
  simp [gA,bZ,jP,jA.nx,jA.good,jA.ends,jQ,vK,gF,gE,uI,So.settled,So.get,So.put,So.to,fle,mC,uK,hlen,-qZa,g2,g3,g4,g5,g6,g7,g8,g9,g10,g11,g12,g13,g14,g15,g16,g17,g18,g19,g20,g21,g22,g23,g24,g25,g26,g27,g28,g29,g30,g31,r1,b1]
  exact ⟨fun e=>absurd e (by simp),fun _ _=>⟨by simp,by rw [hst]; rfl,by rw [hst]; rfl⟩,fun _ e=>absurd rfl e,fun e=>absurd e (by simp),fun _=>by rw [hst]; exact H.same rfl rfl rfl rfl,⟨fun e=>absurd e.1 (by simp),fun e=>by omega⟩,rfl⟩
 ·have e8':cls=1:=e8
  subst e8'
  have hc:wI ⟨c,lst,true⟩=(⟨c,lst,true⟩,0,3):=by unfold wI; rw [h7]; simp [hlz]
  rw [hc] at hst
  simp [gA,bZ,jP,jA.nx,jA.good,jA.ends,jQ,vK,gF,gE,uI,So.settled,So.get,So.put,So.to,fle,mC,uK,hlen,-qZa,g2,g3,g4,g5,g6,g7,g8,g9,g10,g11,g12,g13,g14,g15,g16,g17,g18,g19,g20,g21,g22,g23,g24,g25,g26,g27,g28,g29,g30,g31,r1,b1]
  refine ⟨fun e=>absurd e (by simp),fun _ _=>⟨by simp,by rw [hst]; rfl,?_⟩,fun _ e=>absurd rfl e,fun e=>absurd e (by simp),fun _=>by rw [hst]; exact H.same rfl rfl rfl rfl,⟨fun e=>absurd e.1 (by simp),fun e=>absurd e.1 (by simp)⟩,rfl⟩
  rw [hst]
  simp [wU,uK]
def qYd:Prop :=∀(f b:Int) (x:Ins) (a:So) (th:yJ) (ch:jN),5≤x.op∧x.op≤9→Op4 x→(x.op=6∨x.op=8→x.r≠x.b)→Got a th ch→∃e fl,xE f b (vA f b ch.cap x) 40 a=some (e,fl)∧qI7 (wE x).toNat th ch x e fl
theorem qY8:qYd:=by
 intro f b x a th ch hx ho hne hg
 have h:x.op=5∨x.op=6∨x.op=7∨x.op=8∨x.op=9:=by omega
 rcases h with h | h | h | h | h
 ·have:=qQk (f:=f) (b:=b) h ho hg; unfold wE; simpa [h] using this
 ·have:=qQj (f:=f) (b:=b) h ho hg (hne (.inl h)); unfold wE; simpa [h] using this
 ·have:=qIn (f:=f) (b:=b) h ho hg; unfold wE; simpa [h] using this
 ·have:=qIm (f:=f) (b:=b) h ho hg (hne (.inr h)); unfold wE; simpa [h] using this
 ·have:=qMt (f:=f) (b:=b) h ho hg; unfold wE; simpa [h] using this
theorem qHr {caps:List Int} {b:List Ins} (hb:wJ b caps.length=true) (hl:zQ caps=true) {j k:Nat} :∀(n:Nat),n≤b.length→j<n→(k:Int)<wE (b.getD j default)→
  (szB (b.take j)).toNat+k<(aL caps b n).length∧(aL caps b n).getD ((szB (b.take j)).toNat+k) default=(tD caps (b.getD j default) (szB (b.take j)) (gQ b)).getD k default
 | 0,_,h,_=>by omega
 | n+1,hn,hj,hk=>by
  have hs:=lO hb hl n (by omega)
  have he:=qCw hb hl n (by omega) (szB (b.take n))
  by_cases hc:j<n
  ·obtain ⟨h1,h2⟩:=qHr hb hl n (by omega) hc hk
   refine ⟨by simp only [aL,qZo]; omega,?_⟩
   rw [←h2,aL]
   simp only [qZa]
   rw [qZn h1]
  ·obtain rfl:j=n:=by omega
   have h0:=(qB8 b j).1
   refine ⟨by simp only [aL,qZo]; omega,?_⟩
   rw [aL,qZa,qYy (by omega),←qZa]
   congr 1
   omega
theorem qUw {caps:List Int} {b:List Ins} (hb:wJ b caps.length=true) (hl:zQ caps=true) {j k:Nat} (hj:j<b.length) (hk:(k:Int)<wE (b.getD j default)) :
  (szB (b.take j)).toNat+k<(comp caps b).length∧(comp caps b).getD ((szB (b.take j)).toNat+k) default=(tD caps (b.getD j default) (szB (b.take j)) (gQ b)).getD k default :=
 qHr hb hl b.length (qZ7 _) hj hk
theorem qRw {caps:List Int} {b:List Ins} (hb:wJ b caps.length=true) (hl:zQ caps=true):((comp caps b).length:Int)=szB b:=by
 have:=lO hb hl b.length (qZ7 _)
 rw [wB7] at this
 exact this
theorem qDx :∀(b:List Ins) (off k at_:Int) (i:Nat),i<b.length→off+szB (b.take i)≤at_→at_<off+szB (b.take (i+1))→dK b off k at_=(k+i,decide (at_=off+szB (b.take i)))
 | [],_,_,_,i,h,_,_=>by simp at h
 | x::l,off,k,at_,0,_,h1,h2=>by
  simp only [List.take_zero,szB,wB6] at h1 h2
  unfold dK
  rw [if_pos (by omega)]
  simp [szB]
 | x::l,off,k,at_,i+1,h,h1,h2=>by
  simp only [wB6,szB] at h1 h2
  have hl:=(qIi (l.take i)).1
  unfold dK
  rw [if_neg (by omega)]
  rw [qDx l (off+wE x) (k+1) at_ i (by simpa using h) (by omega) (by omega)]
  refine Prod.ext (by push_cast; omega) ?_
  simp only [wB6,szB]
  congr 1
  apply propext
  constructor<;>intro e<;>omega
theorem qJd {x:Ins} (h:1≤x.op∧x.op≤13):1≤wE x:=by
 unfold wE
 repeat' split
 all_goals (try omega)
 rw [qK.2 h]
 decide
theorem qJe {x:Ins} (h:1≤x.op∧x.op≤13) (hc :¬(5≤x.op∧x.op≤9)):wE x=1:=by
 unfold wE
 rw [if_neg (by omega),if_neg (by omega),if_neg (by omega),if_neg (by omega),if_neg (by omega),qK.2 h]
 rfl
theorem eA {x:Ins} (hc:5≤x.op∧x.op≤9):13≤wE x:=by
 unfold wE
 repeat' split
 all_goals (try omega)
theorem qKf {b:List Ins} (hb :∀i,i<b.length→1≤wE (b.getD i default)) :∀(i j:Nat),i<j→j≤b.length→szB (b.take i)<szB (b.take j)
 | i,0,h,_=>by omega
 | i,j+1,h,hj=>by
  have h1:=hb j (by omega)
  rw [mI b j (by omega)]
  by_cases e:i=j
  ·rw [e]; omega
  ·have:=qKf hb i j (by omega) (by omega)
   omega
theorem qJx {caps:List Int} (hl:zQ caps=true) {n:Nat} (h:n<caps.length):base caps n=eX (caps.take n):=by
 unfold base
 have hw:qT (n:Int) 0 ((caps.length:Int)-1)=true:=by rw [qK]; omega
 rw [hl,hw]
 rfl
def bs (caps:List Int) (n:Nat):Nat:=(eX (caps.take n)).toNat
def cp (caps:List Int) (n:Nat):Nat:=(caps.getD n 0).toNat
theorem xH {caps:List Int} (hl:zQ caps=true) {n:Nat} (h:n<caps.length):base caps n=(bs caps n:Int)∧caps.getD n 0=(cp caps n:Int)∧1≤cp caps n∧cp caps n≤4∧bs caps n+cp caps n+4≤24:=by
 have e:=qJx hl h
 have hn :¬base caps n<0:=qL6 hl (by omega)
 obtain ⟨_,_,_,h1,h2,h3⟩:=qOi hn
 rw [qK,wAz] at h3
 rw [wAz] at h2
 unfold bs cp
 rw [←e]
 omega
theorem qF4 {caps:List Int} (hl:zQ caps=true) :∀{n k:Nat},n<k→k<caps.length→bs caps n+cp caps n+4≤bs caps k
 | n,0,h,_=>by omega
 | n,k+1,h,hk=>by
  have h1:=xH hl (n:=k) (by omega)
  have h2:=xH hl (n:=k+1) hk
  have h3:=qGg caps k (by omega)
  rw [qJx hl hk] at h2
  rw [qJx hl (by omega)] at h1
  by_cases e:n=k
  ·subst e; omega
  ·have:=qF4 hl (n:=n) (k:=k) (by omega) (by omega)
   omega
theorem So.put_dat (s:So) (r v:Int):(s.put r v).dat=s.dat∧(s.put r v).fst=s.fst∧(s.put r v).cnt=s.cnt∧(s.put r v).cls=s.cls∧(s.put r v).hold=s.hold∧(s.put r v).k=s.k:=by
 unfold So.put
 repeat' split
 all_goals exact ⟨rfl,rfl,rfl,rfl,rfl,rfl⟩
theorem qGm {f b:Int} {L:List yU} :∀{n:Nat} {a e:So} {fl:Bool},xE f b L n a=some (e,fl)→a.hold=false→e.fst=a.fst∧e.cnt=a.cnt∧e.cls=a.cls∧e.dat=a.dat∧e.hold=false
 | n,a,e,fl,h,hh=>by
  cases hs:a.settled L.length
  ·obtain ⟨_,m,rfl,h1 | h1⟩:=aN h hs
   ·obtain ⟨s',h2,_,h3⟩:=h1
    have hk:s'.fst=a.fst∧s'.cnt=a.cnt∧s'.cls=a.cls∧s'.dat=a.dat∧s'.hold=false:=by
     unfold jQ at h2
     have hp:=fun r v=>So.put_dat a r v
     repeat' split at h2
     all_goals (first
      | (exfalso; rename_i hc; exact hc hh)
      | (cases h2; done)
      | (cases h2; exact ⟨(hp _ _).2.1,(hp _ _).2.2.1,(hp _ _).2.2.2.1,(hp _ _).1,(hp _ _).2.2.2.2.1.trans hh⟩)
      | (cases h2; exact ⟨rfl,rfl,rfl,rfl,hh⟩))
    obtain ⟨k1,k2,k3,k4,k5⟩:=hk
    obtain ⟨g1,g2,g3,g4,g5⟩:=qGm h3 k5
    exact ⟨by rw [g1,k1],by rw [g2,k2],by rw [g3,k3],by rw [g4,k4],g5⟩
   ·obtain ⟨s',h2,h3,h4⟩:=h1
    simp only [Prod.mk.injEq] at h4
    obtain ⟨rfl,_⟩:=h4
    have:e=a:=by
     unfold jQ at h2
     repeat' split at h2
     all_goals (first | exact absurd h2 kU | (cases h2; done) | (cases h2; rfl))
    subst this
    exact ⟨rfl,rfl,rfl,rfl,hh⟩
  ·rw [jP hs] at h
   simp only [Option.some.injEq,Prod.mk.injEq] at h
   obtain ⟨rfl,_⟩:=h
   exact ⟨rfl,rfl,rfl,rfl,hh⟩
theorem qGl {f b:Int} {L:List yU} :∀{n:Nat} {a:So} {r:So×Bool},xE f b L n a=some r→xE f b L (n+1) a=some r
 | n,a,r,h=>by
  cases hs:a.settled L.length
  ·obtain ⟨hk,m,rfl,h1 | h1⟩:=aN h hs
   ·obtain ⟨s',h2,h4,h3⟩:=h1
    exact qIo hs hk h2 h4 (qGl h3)
   ·obtain ⟨s',h2,h3,rfl⟩:=h1
    exact qA1 hs hk h2 h3
  ·rw [jP hs] at h⊢
   exact h
theorem qVu {f b:Int} {L:List yU} {n m:Nat} {a:So} {r:So×Bool} (h:xE f b L n a=some r) (hm:n≤m):xE f b L m a=some r:=by
 obtain ⟨d,rfl⟩:=Nat.le.dest hm
 clear hm
 induction d with
 | zero=>exact h
 | succ d ih=>exact qGl ih
theorem qA2 {f b:Int} {L:List yU} :∀{n:Nat} {a:So} {r:So×Bool},xE f b L n a=some r→xE f b L (L.length-a.k) a=some r
 | n,a,r,h=>by
  cases hs:a.settled L.length
  ·obtain ⟨hk,m,rfl,h1 | h1⟩:=aN h hs
   ·obtain ⟨s',h2,h4,h3⟩:=h1
    obtain ⟨d,hd⟩ :∃d,L.length-a.k=d+1:=⟨L.length-a.k-1,by omega⟩
    rw [hd]
    refine qIo hs hk h2 h4 ?_
    rcases h4 with h4 | ⟨h4,h5⟩
    ·exact qVu (qA2 h3) (by omega)
    ·have hse:s'.settled L.length=true:=by simp [So.settled,h4,h5]
     rw [jP hse] at h3⊢
     exact h3
   ·obtain ⟨s',h2,h3,rfl⟩:=h1
    obtain ⟨d,hd⟩ :∃d,L.length-a.k=d+1:=⟨L.length-a.k-1,by omega⟩
    rw [hd]
    exact qA1 hs hk h2 h3
  ·rw [jP hs] at h⊢
   exact h
theorem qT0 {f b:Int} {t:yU} {a s':So} (h:jQ f b t a=.go s'):t.op≠8∧t.op≠9:=by
 refine ⟨fun e=>?_,fun e=>?_⟩<;>(unfold jQ vK at h; rw [e] at h; simp at h)
theorem qMu {f b:Int} {t:yU} {a s':So} (h:jQ f b t a=.stop s'):t.op=13∧s'=a:=by
 unfold jQ at h
 repeat' split at h
 all_goals (first | exact absurd h kU | (cases h; done) | (rename_i h13; cases h; exact ⟨h13,rfl⟩))
theorem qKj {b:Int} {t:yU} {a s':So} (h:vK b t a=.go s'):s'.dat.length=a.dat.length:=by
 unfold vK gF gE uI at h
 have hp:=fun r v=>(So.put_dat a r v).1
 repeat' split at h
 all_goals (first
  | (cases h; done)
  | (cases h; rfl)
  | (cases h; exact congrArg List.length (hp _ _))
  | (cases h; exact wAp))
theorem qQl {f b:Int} {t:yU} {a s':So} (h:jQ f b t a=.go s'):s'.dat.length=a.dat.length:=by
 unfold jQ at h
 have hp:=fun r v=>(So.put_dat a r v).1
 repeat' split at h
 all_goals (first
  | exact qKj h
  | (cases h; done)
  | (cases h; rfl)
  | (cases h; exact congrArg List.length (hp _ _)))
structure lW (K:uE) (f:Int) (s:So):Prop where
 at_:K.at_=f+s.k
 regs:K.regs=s.low++[s.t4,s.t5,s.t6,s.t7]
 low:s.low.length=4
 st:K.st=0
theorem lW.get {K:uE} {f:Int} {s:So} (h:lW K f s) {r:Int} (h0:0≤r) (h1:r≤7):rg K r=s.get r:=by
 unfold rg So.get
 rw [h.regs]
 obtain ⟨n,rfl⟩:=wB8 h0
 simp only [wAz]
 have hl:=h.low
 by_cases hn:n<4
 ·rw [if_pos (by omega)]
  simp [qZa,qZn (show n<s.low.length by omega)]
 ·rw [if_neg (by omega)]
  rw [qZa,qYy (by omega),hl]
  have:n=4∨n=5∨n=6∨n=7:=by omega
  rcases this with rfl | rfl | rfl | rfl<;>simp
theorem lW.put {K:uE} {f:Int} {s:So} (h:lW K f s) {r v:Int} (h0:0≤r) (h1:r≤7) (a:Int) (vw:List Int) (k:Nat) (ha:a=f+k):lW ⟨a,K.regs.set r.toNat v,vw,K.st⟩ f ((s.put r v).to k):=by
 obtain ⟨n,rfl⟩:=wB8 h0
 have hl:=h.low
 have hr:=h.regs
 refine ⟨by simpa [So.to] using ha,?_,?_,h.st⟩
 ·rw [hr]
  simp only [wAz,So.put,So.to]
  by_cases hn:n<4
  ·rw [if_pos (by omega)]
   simp only
   rw [List.set_append_left _ _ (by omega)]
  ·rw [if_neg (by omega),List.set_append_right _ _ (by omega),hl]
   have:n=4∨n=5∨n=6∨n=7:=by omega
   rcases this with rfl | rfl | rfl | rfl<;>simp
 ·simp only [So.put,So.to]
  repeat' split
  all_goals simp [hl]
theorem lW.move {K:uE} {f:Int} {s:So} (h:lW K f s) (a:Int) (vw:List Int) (k:Nat) (ha:a=f+k):lW ⟨a,K.regs,vw,K.st⟩ f (s.to k) :=
 ⟨by simpa [So.to] using ha,h.regs,h.low,h.st⟩
structure qB4 (cs:List (List wY)) (b:Nat) (s:So):Prop where
 fst:jG cs (b+1)=s.fst
 cnt:jG cs (b+2)=s.cnt
 cls:jG cs (b+3)=s.cls
 dat :∀j:Nat,j<s.dat.length→jG cs (b+4+j)=s.dat.getD j 0
def hX (cs:List (List wY)) (b n:Nat) (v:List Int):Prop :=∀j:Nat,1≤j→j<n+4→v.getD (b+j) 0=((cs.getD (b+j) []).length:Int)-1
theorem cK {m:qO} {i:Nat} (hi:i<m.cores.length):eH m i=if (qI m i).st≠0∨((qN m i).op=9∧(m.tr.length:Int)=4000) then 3
  else if eJ (qN m i).op&&!decide ((qN m i).op=5)&&qT (uZ (qI m i) (qN m i)) 0 23&&decide ((4000:Int)≤(m.mem.cells.getD (uZ (qI m i) (qN m i)).toNat []).length) then 3 else 0:=by
 have hw:qT (i:Int) 0 ((m.cores.length:Int)-1)=true:=by rw [qK]; omega
 unfold eH
 rw [if_pos hw]
 rfl
theorem qAl {m:qO} {i:Nat} (hi:i<m.cores.length) (hst:(qI m i).st=0) (h9:(qN m i).op≠9) (hm:eJ (qN m i).op=false):eH m i=0:=by
 rw [cK hi,if_neg (by rw [hst]; simp [h9]),hm]
 simp
theorem qAk {m:qO} {i:Nat} (hi:i<m.cores.length) (hst:(qI m i).st=0) (hm:eJ (qN m i).op=true) :
  eH m i=3∨(eH m i=0∧((qN m i).op≠5→qT (uZ (qI m i) (qN m i)) 0 23=true→(m.mem.cells.getD (uZ (qI m i) (qN m i)).toNat []).length<4000)):=by
 have h9:(qN m i).op≠9:=by intro e; rw [e] at hm; exact absurd hm (by decide)
 rw [cK hi,if_neg (by rw [hst]; simp [h9]),hm]
 by_cases h5:(qN m i).op=5
 ·right
  rw [h5]
  simp
 ·cases hc:qT (uZ (qI m i) (qN m i)) 0 23
  ·right
   simp
  ·by_cases hf:(4000:Int)≤(m.mem.cells.getD (uZ (qI m i) (qN m i)).toNat []).length
   ·left
    simp [h5,hf,-qZa]
   ·right
    refine ⟨by simp [h5,hf,-qZa],fun _ _=>by omega⟩
theorem cV {m:qO} {i:Nat} {late:Int} (h:eH m i=3):yV m ⟨i,late⟩=(m,3):=by
 unfold yV
 simp only
 rw [h,if_neg (by decide)]
theorem nB {m:qO} {i:Nat} {late:Int} (h:eH m i=0):yV m ⟨i,late⟩=(mdo m i late,0):=by
 unfold yV
 simp only
 rw [h,if_pos rfl,wAz]
theorem aO (m:qO) (i j:Nat) (k:uE) (h:j≠i):qI (dI m i k) j=qI m j:=by
 unfold qI dI
 simp [qZa,List.getElem?_set,show¬i=j from fun e=>h e.symm]
theorem eG {m:qO} {i:Nat} {late:Int} (hi:i<m.cores.length) (hst:(qI m i).st=0) (h9:(qN m i).op≠9) (h12:(qN m i).op≠12) (h13:(qN m i).op≠13) (hm:eJ (qN m i).op=false)
  (hn:gG (qI m i) (qN m i)<((m.codes.getD i []).length:Int)) :
  yV m ⟨i,late⟩=(dI m i {alu (qI m i) (qN m i) with at_:=gG (qI m i) (qN m i)},0):=by
 rw [nB (qAl hi hst h9 hm)]
 unfold mdo
 simp only
 rw [if_neg h12,if_neg h13,hm,if_neg (by decide),if_neg h9]
 unfold qG1
 rw [if_neg (by omega)]
theorem qKx {m:qO} {i:Nat} {late:Int} (hi:i<m.cores.length) (hst:(qI m i).st=0) (h13:(qN m i).op=13):yV m ⟨i,late⟩=(dI m i {qI m i with st:=2},0):=by
 rw [nB (qAl hi hst (by omega) (by rw [h13]; decide))]
 unfold mdo stop
 simp only
 rw [if_neg (by omega),if_pos h13]
theorem qRa {cs:List (List wY)} {view:List Int} {c:Nat} {late:Int} (hm:qCk cs) (hv:VOk cs view) (hc:c<24) (h:view.getD c 0=((cs.getD c []).length:Int)-1):load cs view c late false=(jG cs c,view):=by
 have h1:=(hm.cell c hc).1
 have e:max (((cs.getD c []).length:Int)-1-max late 0) (view.getD c 0)=((cs.getD c []).length:Int)-1:=by omega
 unfold load
 simp only
 rw [e]
 refine Prod.ext ?_ ?_
 ·rw [if_neg (by decide)]
  show ((cs.getD c []).getD (((cs.getD c []).length:Int)-1).toNat default).v=jG cs c
  unfold jG
  congr 2
  omega
 ·rw [if_neg (by decide),←h]
  exact vU _ _ _ (by rw [hv.1]; exact hc)
theorem bO {cs:List (List wY)} {c:Nat} (w:wY) (hc:c<cs.length) (d:Nat):jG (cs.set c (cs.getD c []++[w])) d=if d=c then w.v else jG cs d:=by
 unfold jG
 rw [uG _ _ _ _ _ hc]
 split
 ·simp [qZa]
 ·rfl
structure tV (m m':qO) (i:Nat) (f:Int) (b:Nat) (s s':So):Prop where
 tr:m'.tr=m.tr
 codes:m'.codes=m.codes
 len:m'.cores.length=m.cores.length
 other :∀j,j≠i→qI m' j=qI m j
 core:lW (qI m' i) f s'
 dat:s'.dat.length=s.dat.length
 held:s'.hold=true→s.hold=true∧qB4 m'.mem.cells b s'∧hX m'.mem.cells b s.dat.length (qI m' i).view∧m'.mem.cells.getD b []=m.mem.cells.getD b []
 out :∀c,¬(b≤c∧c<b+4+s.dat.length)→m'.mem.cells.getD c []=m.mem.cells.getD c []
 none:s.hold=false→m'.mem=m.mem
 free:s.hold=true→s'.hold=false→jG m'.mem.cells b=0∧qB4 m'.mem.cells b s'∧hX m'.mem.cells b s.dat.length ((m'.mem.cells.getD b []).getD ((m'.mem.cells.getD b []).length-1) default).view
theorem iV (m:qO) (i:Nat) (k:uE):(dI m i k).cores.length=m.cores.length:=by simp [dI]
theorem vE (m:qO) (i:Nat) (k:uE) (h:i<m.cores.length):qI (dI m i k) i=k:=by rw [qP9 m i i k h,if_pos rfl]
theorem qF9 {m:qO} {i:Nat} {f:Int} {b:Nat} {s s':So} (hi:i<m.cores.length) {K':uE} (hK:lW K' f s') (hv:K'.view=(qI m i).view) (h1:s'.dat=s.dat) (h2:s'.fst=s.fst) (h3:s'.cnt=s.cnt) (h4:s'.cls=s.cls) (h5:s'.hold=s.hold)
  (hd:s.hold=true→qB4 m.mem.cells b s∧hX m.mem.cells b s.dat.length (qI m i).view):tV m (dI m i K') i f b s s' where
 tr:=rfl
 codes:=rfl
 len:=iV _ _ _
 other:=fun j hj=>aO m i j K' hj
 core:=by rw [vE m i K' hi]; exact hK
 dat:=by rw [h1]
 held:=fun h=>by
  rw [h5] at h
  obtain ⟨a,c⟩:=hd h
  rw [vE m i K' hi,hv]
  exact ⟨h,⟨by rw [h2]; exact a.fst,by rw [h3]; exact a.cnt,by rw [h4]; exact a.cls,by rw [h1]; exact a.dat⟩,c,rfl⟩
 out:=fun c _=>rfl
 none:=fun _=>rfl
 free:=fun h h'=>by rw [h5,h] at h'; exact absurd h' (by decide)
theorem qJr {m:qO} {i:Nat} {f:Int} {b:Nat} {s s':So} (hM:MOk m) (hi:i<m.cores.length) (hc:lW (qI m i) f s)
  (hd:s.hold=true→qB4 m.mem.cells b s∧hX m.mem.cells b s.dat.length (qI m i).view) (ht:jQ f b (qN m i) s=.go s') (hn:f+s'.k<((m.codes.getD i []).length:Int)) (hf:0≤f)
  (hop:(qN m i).op≤4∨(qN m i).op=10∨(qN m i).op=11) :∃m',(∀late,yV m ⟨i,late⟩=(m',0))∧tV m m' i f b s s':=by
 obtain ⟨r0,r1,b0,b1,o0,o1,ha⟩:=zU (cF hM hi)
 have ga:0≤(qN m i).a∧(qN m i).a≤7:=by omega
 have hm:eJ (qN m i).op=false:=by
  unfold eJ
  have h5 :¬(qN m i).op=5:=by omega
  have h6 :¬(qN m i).op=6:=by omega
  have h7 :¬(qN m i).op=7:=by omega
  have h8 :¬(qN m i).op=8:=by omega
  simp [h5,h6,h7,h8]
 have ea:=hc.get ga.1 ga.2
 have eb:=hc.get b0 b1
 have hat:=hc.at_
 have hst:=hc.st
 have hloc:=fun (late:Int)=>@eG m i late hi hst (by omega) (by omega) (by omega) hm
 generalize qN m i=t at *
 have key :∀K':uE,K' = {alu (qI m i) t with at_:=gG (qI m i) t}→lW K' f s'→K'.view=(qI m i).view→s'.dat=s.dat→s'.fst=s.fst→s'.cnt=s.cnt→s'.cls=s.cls→s'.hold=s.hold→∃m',(∀late,yV m ⟨i,late⟩=(m',0))∧tV m m' i f b s s':=by
  intro K' hK h0 h6 h1 h2 h3 h4 h5
  refine ⟨dI m i K',fun late=>?_,qF9 hi h0 h6 h1 h2 h3 h4 h5 hd⟩
  rw [hloc late,←hK]
  have:=h0.at_
  rw [hK] at this
  simp only at this
  rw [this]
  exact hn
 have hkey :∀(r v:Int),0≤r→r≤7→s'=(s.put r v).to (s.k+1)→{alu (qI m i) t with at_:=gG (qI m i) t}=(⟨(qI m i).at_+1,(qI m i).regs.set r.toNat v,(qI m i).view,(qI m i).st⟩:uE)→∃m',(∀late,yV m ⟨i,late⟩=(m',0))∧tV m m' i f b s s':=by
  intro r v h0 h1 hs hK
  subst hs
  obtain ⟨p1,p2,p3,p4,p5,p6⟩:=So.put_dat s r v
  exact key _ rfl (by rw [hK]; exact hc.put h0 h1 _ _ _ (by rw [hat]; push_cast; omega)) (by rw [hK]) p1 p2 p3 p4 p5
 have hcase:t.op=1∨t.op=2∨t.op=3∨t.op=4∨t.op=10∨t.op=11:=by omega
 rcases hcase with ho | ho | ho | ho | ho | ho
 ·simp only [jQ,ho,if_pos,jA.go.injEq] at ht
  refine hkey t.r t.n r0 r1 ht.symm ?_
  simp [alu,gG,qA3,ho]
 ·simp [jQ,ho] at ht
  refine hkey t.r _ r0 r1 ht.symm ?_
  simp [alu,gG,qA3,ho,ea,eb]
 ·simp [jQ,ho] at ht
  refine hkey t.r _ r0 r1 ht.symm ?_
  simp [alu,gG,qA3,ho,ea,eb]
 ·simp [jQ,ho] at ht
  refine hkey t.r _ r0 r1 ht.symm ?_
  simp [alu,gG,qA3,ho,ea,eb]
 ·simp [jQ,ho] at ht
  split at ht
  case isFalse=>exact absurd ht (by simp)
  rename_i hg
  simp only [jA.go.injEq] at ht
  subst ht
  refine key _ rfl ?_ ?_ rfl rfl rfl rfl rfl
  ·have:({alu (qI m i) t with at_:=gG (qI m i) t}:uE)=⟨t.n,(qI m i).regs,(qI m i).view,(qI m i).st⟩:=by simp [alu,gG,ho]
   rw [this]
   exact hc.move _ _ _ (by omega)
  ·simp [alu,ho]
 ·simp [jQ,ho] at ht
  split at ht
  case isFalse=>exact absurd ht (by simp)
  rename_i hg
  simp only [jA.go.injEq] at ht
  subst ht
  refine key _ rfl ?_ ?_ rfl rfl rfl rfl rfl
  ·have:({alu (qI m i) t with at_:=gG (qI m i) t}:uE)=⟨if s.get t.a=0 then t.n else (qI m i).at_+1,(qI m i).regs,(qI m i).view,(qI m i).st⟩:=by simp [alu,gG,ho,ea]
   rw [this]
   refine hc.move _ _ _ ?_
   split<;>omega
  ·simp [alu,ho]
theorem rR (cs:List (List wY)) (view:List Int) (cell:Nat) (v:Int) (go:Bool):store cs view cell v go=(cs.set cell (cs.getD cell []++[⟨v,if go then view.set cell ((cs.getD cell []).length:Int) else (qZ2 24 0).set cell ((cs.getD cell []).length:Int)⟩]),view.set cell ((cs.getD cell []).length:Int)):=rfl
theorem oL {m:qO} {i:Nat} {late:Int} {c:Nat} (h0:eH m i=0) (hm:eJ (qN m i).op=true) (hcell:uZ (qI m i) (qN m i)=c) (hc:c<24) (hn:(qI m i).at_+1<((m.codes.getD i []).length:Int)) :
  yV m ⟨i,late⟩=(dI {m with mem:=⟨(dF m.mem.cells (qI m i) (qN m i) c late).1⟩} i {(dF m.mem.cells (qI m i) (qN m i) c late).2 with at_:=(qI m i).at_+1},0):=by
 have h12:(qN m i).op≠12:=by intro e; rw [e] at hm; exact absurd hm (by decide)
 have h13:(qN m i).op≠13:=by intro e; rw [e] at hm; exact absurd hm (by decide)
 rw [nB h0]
 unfold mdo
 simp only
 rw [if_neg h12,if_neg h13,hm,if_pos rfl,hcell]
 have hw:qT (c:Int) 0 23=true:=by rw [qK]; omega
 rw [hw,if_pos rfl,wAz]
 unfold qG1
 simp only
 rw [if_neg (by omega)]
theorem qM8 {m:qO} {i:Nat} {f:Int} {b:Nat} {s:So} {c:Nat} {v:Int} (hM:MOk m) (hi:i<m.cores.length) (hc:lW (qI m i) f s)
  (hd:qB4 m.mem.cells b s∧hX m.mem.cells b s.dat.length (qI m i).view) (ho:(qN m i).op=5) (hcell:uZ (qI m i) (qN m i)=c) (h1:b+1≤c) (h2:c<b+4+s.dat.length) (h24:b+4+s.dat.length≤24) (hv:jG m.mem.cells c=v)
  (hn:f+(s.k+1)<((m.codes.getD i []).length:Int)) :∃m',(∀late,yV m ⟨i,late⟩=(m',0))∧tV m m' i f b s ((s.put (qN m i).r v).to (s.k+1)):=by
 obtain ⟨r0,r1,_⟩:=zU (cF hM hi)
 have hm:eJ (qN m i).op=true:=by rw [ho]; rfl
 have hat:=hc.at_
 have hK:=hM.core i hi
 have h0:eH m i=0:=by
  rw [cK hi,if_neg (by rw [hc.st]; simp [ho]),ho]
  simp
 have hcv:(qI m i).view.getD c 0=((m.mem.cells.getD c []).length:Int)-1:=by
  have:=hd.2 (c-b) (by omega) (by omega)
  rw [show b+(c-b)=c by omega] at this
  exact this
 have hac :∀late,dF m.mem.cells (qI m i) (qN m i) c late=(m.mem.cells,⟨(qI m i).at_,(qI m i).regs.set (qN m i).r.toNat v,(qI m i).view,(qI m i).st⟩):=by
  intro late
  unfold dF
  rw [if_pos ho]
  simp only
  rw [qRa hM.mem hK.view (by omega) hcv,hv]
 obtain ⟨p1,p2,p3,p4,p5,p6⟩:=So.put_dat s (qN m i).r v
 refine ⟨dI m i ⟨(qI m i).at_+1,(qI m i).regs.set (qN m i).r.toNat v,(qI m i).view,(qI m i).st⟩,fun late=>?_,?_⟩
 ·rw [oL h0 hm hcell (by omega) (by omega),hac late]
 ·exact qF9 hi (hc.put r0 r1 _ _ _ (by rw [hat]; push_cast; omega)) rfl p1 p2 p3 p4 p5 (fun _=>hd)
theorem zM {cs:List (List wY)} {c d:Nat} (x:List wY) (hc:c<cs.length):(cs.set c x).getD d []=if d=c then x else cs.getD d []:=uG _ _ _ _ _ hc
theorem qJq {m:qO} {i:Nat} {f:Int} {b:Nat} {s s':So} {c:Nat} (hM:MOk m) (hi:i<m.cores.length) (hc:lW (qI m i) f s) (hh:s.hold=true)
  (hd:qB4 m.mem.cells b s∧hX m.mem.cells b s.dat.length (qI m i).view) (ho:(qN m i).op=6) (hcell:uZ (qI m i) (qN m i)=c) (h1:b+1≤c) (h2:c<b+4+s.dat.length) (h24:b+4+s.dat.length≤24)
  (hn:f+(s.k+1)<((m.codes.getD i []).length:Int)) (hlow:s'.low=s.low∧s'.t4=s.t4∧s'.t5=s.t5∧s'.t6=s.t6∧s'.t7=s.t7∧s'.k=s.k+1∧s'.hold=true) (hdl:s'.dat.length=s.dat.length)
  (hf:s'.fst=if c=b+1 then s.get (qN m i).b else s.fst) (hct:s'.cnt=if c=b+2 then s.get (qN m i).b else s.cnt) (hcl:s'.cls=if c=b+3 then s.get (qN m i).b else s.cls)
  (hdt :∀j:Nat,j<s.dat.length→s'.dat.getD j 0=if c=b+4+j then s.get (qN m i).b else s.dat.getD j 0) :
  (∀late,yV m ⟨i,late⟩=(m,3))∨∃m',(∀late,yV m ⟨i,late⟩=(m',0))∧tV m m' i f b s s':=by
 obtain ⟨r0,r1,b0,b1,_⟩:=zU (cF hM hi)
 have hm:eJ (qN m i).op=true:=by rw [ho]; rfl
 have hat:=hc.at_
 have hK:=hM.core i hi
 have hlen:=hM.mem.len
 rcases qAk hi hc.st hm with h3 | ⟨h0,hroom⟩
 ·exact .inl fun late=>cV h3
 right
 have hvb:=hc.get b0 b1
 have hac :∀late,dF m.mem.cells (qI m i) (qN m i) c late=(m.mem.cells.set c (m.mem.cells.getD c []++[⟨s.get (qN m i).b,(qZ2 24 0).set c ((m.mem.cells.getD c []).length:Int)⟩]),{qI m i with view:=(qI m i).view.set c ((m.mem.cells.getD c []).length:Int)}):=by
  intro late
  unfold dF
  rw [if_neg (by omega),if_neg (by omega)]
  simp only
  rw [rR,hvb,ho]
  rfl
 have hcl24:c<m.mem.cells.length:=by omega
 refine ⟨dI {m with mem:=⟨m.mem.cells.set c (m.mem.cells.getD c []++[⟨s.get (qN m i).b,(qZ2 24 0).set c ((m.mem.cells.getD c []).length:Int)⟩])⟩} i ⟨(qI m i).at_+1,(qI m i).regs,(qI m i).view.set c ((m.mem.cells.getD c []).length:Int),(qI m i).st⟩,fun late=>?_,?_⟩
 ·rw [oL h0 hm hcell (by omega) (by omega),hac late]
 obtain ⟨l1,l2,l3,l4,l5,l6,l7⟩:=hlow
 have hvl:(qI m i).view.length=24:=hK.view.1
 have hself:=vE {m with mem:=⟨m.mem.cells.set c (m.mem.cells.getD c []++[⟨s.get (qN m i).b,(qZ2 24 0).set c ((m.mem.cells.getD c []).length:Int)⟩])⟩} i ⟨(qI m i).at_+1,(qI m i).regs,(qI m i).view.set c ((m.mem.cells.getD c []).length:Int),(qI m i).st⟩ hi
 refine ⟨rfl,rfl,iV _ _ _,fun j hj=>by rw [aO _ _ _ _ hj]; rfl,?_,hdl,?_,?_,?_,?_⟩
 ·rw [hself]
  exact ⟨by rw [l6,hat]; push_cast; omega,by rw [l1,l2,l3,l4,l5]; exact hc.regs,by rw [l1]; exact hc.low,hc.st⟩
 ·intro _
  refine ⟨hh,?_,?_,?_⟩
  ·obtain ⟨d1,d2,d3,d4⟩:=hd.1
   refine ⟨?_,?_,?_,fun j hj=>?_⟩
   ·show jG (m.mem.cells.set c _) (b+1)=_
    rw [bO _ hcl24,hf,d1]
    simp only [eq_comm]
   ·show jG (m.mem.cells.set c _) (b+2)=_
    rw [bO _ hcl24,hct,d2]
    simp only [eq_comm]
   ·show jG (m.mem.cells.set c _) (b+3)=_
    rw [bO _ hcl24,hcl,d3]
    simp only [eq_comm]
   ·show jG (m.mem.cells.set c _) (b+4+j)=_
    rw [bO _ hcl24,hdt j (by omega),d4 j (by omega)]
    simp only [eq_comm]
  ·rw [hself]
   intro j hj1 hj2
   show ((qI m i).view.set c _).getD (b+j) 0=(((m.mem.cells.set c _).getD (b+j) []).length:Int)-1
   rw [uG _ _ _ _ _ (by omega),zM _ hcl24]
   by_cases e:b+j=c
   ·rw [if_pos e,if_pos e]
    simp
   ·rw [if_neg e,if_neg e]
    exact hd.2 j hj1 hj2
  ·show (m.mem.cells.set c _).getD b []=_
   rw [zM _ hcl24,if_neg (by omega)]
 ·intro d hd'
  show (m.mem.cells.set c _).getD d []=_
  rw [zM _ hcl24,if_neg (by omega)]
 ·intro h
  rw [hh] at h
  exact absurd h (by decide)
 ·intro _ h
  rw [l7] at h
  exact absurd h (by decide)
theorem qOb {m:qO} {i:Nat} {f:Int} {b:Nat} {s s':So} (hM:MOk m) (hi:i<m.cores.length) (hc:lW (qI m i) f s) (hh:s.hold=true)
  (hd:qB4 m.mem.cells b s∧hX m.mem.cells b s.dat.length (qI m i).view) (ho:(qN m i).op=7) (hcell:uZ (qI m i) (qN m i)=b) (h24:b+4+s.dat.length≤24) (hz:s.get (qN m i).b=0)
  (hn:f+(s.k+1)<((m.codes.getD i []).length:Int)) (hs:s' = {s with hold:=false}.to (s.k+1)) :
  (∀late,yV m ⟨i,late⟩=(m,3))∨∃m',(∀late,yV m ⟨i,late⟩=(m',0))∧tV m m' i f b s s':=by
 obtain ⟨r0,r1,b0,b1,_⟩:=zU (cF hM hi)
 have hm:eJ (qN m i).op=true:=by rw [ho]; rfl
 have hat:=hc.at_
 have hK:=hM.core i hi
 have hlen:=hM.mem.len
 rcases qAk hi hc.st hm with h3 | ⟨h0,hroom⟩
 ·exact .inl fun late=>cV h3
 right
 have hvb:=hc.get b0 b1
 rw [hz] at hvb
 have hac :∀late,dF m.mem.cells (qI m i) (qN m i) b late=(m.mem.cells.set b (m.mem.cells.getD b []++[⟨0,(qI m i).view.set b ((m.mem.cells.getD b []).length:Int)⟩]),{qI m i with view:=(qI m i).view.set b ((m.mem.cells.getD b []).length:Int)}):=by
  intro late
  unfold dF
  rw [if_neg (by omega),if_neg (by omega)]
  simp only
  rw [rR,hvb,ho]
  rfl
 have hcl24:b<m.mem.cells.length:=by omega
 refine ⟨dI {m with mem:=⟨m.mem.cells.set b (m.mem.cells.getD b []++[⟨0,(qI m i).view.set b ((m.mem.cells.getD b []).length:Int)⟩])⟩} i ⟨(qI m i).at_+1,(qI m i).regs,(qI m i).view.set b ((m.mem.cells.getD b []).length:Int),(qI m i).st⟩,fun late=>?_,?_⟩
 ·rw [oL h0 hm hcell (by omega) (by omega),hac late]
 subst hs
 have hvl:(qI m i).view.length=24:=hK.view.1
 have hself:=vE {m with mem:=⟨m.mem.cells.set b (m.mem.cells.getD b []++[⟨0,(qI m i).view.set b ((m.mem.cells.getD b []).length:Int)⟩])⟩} i ⟨(qI m i).at_+1,(qI m i).regs,(qI m i).view.set b ((m.mem.cells.getD b []).length:Int),(qI m i).st⟩ hi
 refine ⟨rfl,rfl,iV _ _ _,fun j hj=>by rw [aO _ _ _ _ hj]; rfl,?_,rfl,?_,?_,?_,?_⟩
 ·rw [hself]
  exact ⟨by rw [hat]; simp only [So.to]; push_cast; omega,hc.regs,hc.low,hc.st⟩
 ·intro h
  exact absurd h (by simp [So.to])
 ·intro d hd'
  show (m.mem.cells.set b _).getD d []=_
  rw [zM _ hcl24,if_neg (by omega)]
 ·intro h
  rw [hh] at h
  exact absurd h (by decide)
 ·intro _ _
  refine ⟨?_,?_,?_⟩
  ·show jG (m.mem.cells.set b _) b=0
   rw [bO _ hcl24,if_pos rfl]
  ·obtain ⟨d1,d2,d3,d4⟩:=hd.1
   refine ⟨?_,?_,?_,fun j hj=>?_⟩
   ·show jG (m.mem.cells.set b _) (b+1)=_
    rw [bO _ hcl24,if_neg (by omega),d1]
    rfl
   ·show jG (m.mem.cells.set b _) (b+2)=_
    rw [bO _ hcl24,if_neg (by omega),d2]
    rfl
   ·show jG (m.mem.cells.set b _) (b+3)=_
    rw [bO _ hcl24,if_neg (by omega),d3]
    rfl
   ·show jG (m.mem.cells.set b _) (b+4+j)=_
    rw [bO _ hcl24,if_neg (by omega)]
    exact d4 j hj
  ·show hX (m.mem.cells.set b _) b _ ((((m.mem.cells.set b _).getD b []).getD (((m.mem.cells.set b _).getD b []).length-1) default).view)
   rw [zM _ hcl24,if_pos rfl]
   have e:((m.mem.cells.getD b []++[(⟨0,(qI m i).view.set b ((m.mem.cells.getD b []).length:Int)⟩:wY)]).getD ((m.mem.cells.getD b []++[(⟨0,(qI m i).view.set b ((m.mem.cells.getD b []).length:Int)⟩:wY)]).length-1) default)=⟨0,(qI m i).view.set b ((m.mem.cells.getD b []).length:Int)⟩:=by simp [qZa]
   rw [e]
   intro j hj1 hj2
   rw [uG _ _ _ _ _ (by omega),if_neg (by omega),zM _ hcl24,if_neg (by omega)]
   exact hd.2 j hj1 hj2
theorem qO6 {K:uE} {t:yU} (ha:t.a=-1):uZ K t=t.n:=by
 unfold uZ
 rw [if_neg (by omega)]
theorem qO5 {K:uE} {t:yU} (h8:t.op≠8) (ha:0≤t.a) (h0:0≤t.n+rg K t.a) (h1:t.n+rg K t.a<2^63):uZ K t=t.n+rg K t.a:=by
 unfold uZ
 rw [if_pos ⟨h8,ha⟩]
 exact yQ (by omega) h1
theorem qXx {m:qO} {i:Nat} {f:Int} {b:Nat} {s s':So} (hM:MOk m) (hi:i<m.cores.length) (hc:lW (qI m i) f s)
  (hd:s.hold=true→qB4 m.mem.cells b s∧hX m.mem.cells b s.dat.length (qI m i).view) (h24:b+4+s.dat.length≤24) (ht:jQ f b (qN m i) s=.go s') (hn:f+s'.k<((m.codes.getD i []).length:Int)) (hf:0≤f) :
  (∀late,yV m ⟨i,late⟩=(m,3))∨∃m',(∀late,yV m ⟨i,late⟩=(m',0))∧tV m m' i f b s s':=by
 obtain ⟨r0,r1,b0,b1,o0,o1,ha⟩:=zU (cF hM hi)
 by_cases hop:(qN m i).op≤4∨(qN m i).op=10∨(qN m i).op=11
 ·exact .inr (qJr hM hi hc hd ht hn hf hop)
 have hga:=fun h=>hc.get (r:=(qN m i).a) h (by omega)
 have hlo:=@qM8 m i f b s
 have hso:=@qJq m i f b s s'
 have hle:=@qOb m i f b s s'
 have hcr:=@qO5 (qI m i) (qN m i)
 have hca:=@qO6 (qI m i) (qN m i)
 unfold jQ at ht
 rw [if_neg (by omega),if_neg (by omega),if_neg (by omega),if_neg (by omega),if_neg (by omega),if_neg (by omega)] at ht
 split at ht
 ·exact absurd ht (by simp)
 split at ht
 ·exact absurd ht (by simp)
 rename_i h13 hh
 have hh:s.hold=true:=by simpa using hh
 have hd:=hd hh
 unfold vK at ht
 split at ht
 ·rename_i h5
  unfold gF at ht
  split at ht
  ·rename_i h1
   have hcell:=hca h1
   have go :∀(c:Nat) (v:Int),(qN m i).n=c→b+1≤c→c<b+4+s.dat.length→jG m.mem.cells c=v→s'=(s.put (qN m i).r v).to (s.k+1)→(∀late,yV m ⟨i,late⟩=(m,3))∨∃m',(∀late,yV m ⟨i,late⟩=(m',0))∧tV m m' i f b s s':=by
    intro c v e1 e2 e3 e4 e5
    subst e5
    exact .inr (hlo hM hi hc hd h5 (by rw [hcell,e1]) e2 e3 h24 e4 (by simpa [So.to] using hn))
   repeat' split at ht
   ·rename_i e
    simp only [jA.go.injEq] at ht
    exact go (b+1) s.fst (by rw [e]; push_cast; rfl) (by omega) (by omega) hd.1.fst ht.symm
   ·rename_i _ e
    simp only [jA.go.injEq] at ht
    exact go (b+2) s.cnt (by rw [e]; push_cast; rfl) (by omega) (by omega) hd.1.cnt ht.symm
   ·rename_i _ _ e
    simp only [jA.go.injEq] at ht
    exact go (b+3) s.cls (by rw [e]; push_cast; rfl) (by omega) (by omega) hd.1.cls ht.symm
   ·exact absurd ht (by simp)
  ·split at ht
   ·rename_i hne hx
    obtain ⟨x1,x2,x3,x4⟩:=hx
    simp only [jA.go.injEq] at ht
    subst ht
    have hg:=hga x2
    have hcell:uZ (qI m i) (qN m i)=((b+4+(s.get (qN m i).a).toNat:Nat):Int):=by
     rw [hcr (by omega) x2 (by rw [hg]; omega) (by rw [hg]; omega),hg]
     omega
    exact .inr (hlo hM hi hc hd h5 hcell (by omega) (by omega) h24 (hd.1.dat _ x4) (by simpa [So.to] using hn))
   ·exact absurd ht (by simp)
 split at ht
 ·rename_i h5 h6
  unfold gE at ht
  split at ht
  ·rename_i h1
   have hcell:=hca h1
   repeat' split at ht
   ·rename_i e
    simp only [jA.go.injEq] at ht
    subst ht
    refine hso (c:=b+1) hM hi hc hh hd h6 (by rw [hcell,e]; push_cast; rfl) (by omega) (by omega) h24 (by simpa [So.to] using hn) ⟨rfl,rfl,rfl,rfl,rfl,rfl,hh⟩ rfl ?_ ?_ ?_ (fun j hj=>?_)
    ·rw [if_pos rfl]; rfl
    ·rw [if_neg (by omega)]; rfl
    ·rw [if_neg (by omega)]; rfl
    ·rw [if_neg (by omega)]; rfl
   ·rename_i _ e
    simp only [jA.go.injEq] at ht
    subst ht
    refine hso (c:=b+2) hM hi hc hh hd h6 (by rw [hcell,e]; push_cast; rfl) (by omega) (by omega) h24 (by simpa [So.to] using hn) ⟨rfl,rfl,rfl,rfl,rfl,rfl,hh⟩ rfl ?_ ?_ ?_ (fun j hj=>?_)
    ·rw [if_neg (by omega)]; rfl
    ·rw [if_pos rfl]; rfl
    ·rw [if_neg (by omega)]; rfl
    ·rw [if_neg (by omega)]; rfl
   ·rename_i _ _ e
    simp only [jA.go.injEq] at ht
    subst ht
    refine hso (c:=b+3) hM hi hc hh hd h6 (by rw [hcell,e]; push_cast; rfl) (by omega) (by omega) h24 (by simpa [So.to] using hn) ⟨rfl,rfl,rfl,rfl,rfl,rfl,hh⟩ rfl ?_ ?_ ?_ (fun j hj=>?_)
    ·rw [if_neg (by omega)]; rfl
    ·rw [if_neg (by omega)]; rfl
    ·rw [if_pos rfl]; rfl
    ·rw [if_neg (by omega)]; rfl
   ·exact absurd ht (by simp)
  ·split at ht
   ·rename_i hne hx
    obtain ⟨x1,x2,x3,x4⟩:=hx
    simp only [jA.go.injEq] at ht
    subst ht
    have hg:=hga x2
    have hcell:uZ (qI m i) (qN m i)=((b+4+(s.get (qN m i).a).toNat:Nat):Int):=by
     rw [hcr (by omega) x2 (by rw [hg]; omega) (by rw [hg]; omega),hg]
     omega
    refine hso hM hi hc hh hd h6 hcell (by omega) (by omega) h24 (by simpa [So.to] using hn) ⟨rfl,rfl,rfl,rfl,rfl,rfl,hh⟩ (by simp [So.to]) ?_ ?_ ?_ (fun j hj=>?_)
    ·rw [if_neg (by omega)]; rfl
    ·rw [if_neg (by omega)]; rfl
    ·rw [if_neg (by omega)]; rfl
    ·show (s.dat.set _ _).getD j 0=_
     rw [iU x4]
     by_cases e:j=(s.get (qN m i).a).toNat
     ·rw [if_pos e,if_pos (by omega)]
     ·rw [if_neg e,if_neg (by omega)]
   ·exact absurd ht (by simp)
 split at ht
 ·rename_i h5 h6 h7
  unfold uI at ht
  split at ht
  ·rename_i hx
   simp only [jA.go.injEq] at ht
   exact hle hM hi hc hh hd h7 (by rw [hca hx.1,hx.2.1]) h24 hx.2.2 (by rw [←ht] at hn; simpa [So.to] using hn) ht.symm
  ·exact absurd ht (by simp)
 ·exact absurd ht (by simp)
def body (p:wT) (i:Nat):List Ins:=p.bods.getD i []
def thd (s:qS) (i:Nat):yJ:=s.ths.getD i default
def plc (p:wT) (i j:Nat):Ins:=(body p i).getD j default
def frm (p:wT) (i j:Nat):Int:=szB ((body p i).take j)
def chn (s:qS) (n:Nat):jN:=s.chs.getD n default
def eU (x:Ins):Prop:=5≤x.op∧x.op≤9
inductive tU (p:wT) (m:qO) (s:qS) (own:Nat→Option Nat) (i:Nat):Prop where
 | over (h:(qI m i).st≠0) (hs:(thd s i).st=(qI m i).st) (ho :∀n,own n≠some i)
 | out (k:Nat) (h:(qI m i).st=0) (hs:(thd s i).st=0) (ha:(qI m i).at_=frm p i (thd s i).at_.toNat+k) (hr:(qI m i).regs.take 4=(thd s i).regs)
   (hk:k=0∨(eU (plc p i (thd s i).at_.toNat)∧(k=1∧(qI m i).regs.getD 7 0=1∨k=2∧(qI m i).regs.getD 6 0≠0∨k=3))) (ho :∀n,own n≠some i)
 | inner (j n N:Nat) (a e:So) (fl:Bool) (hj:j<(body p i).length) (hx:eU (plc p i j)) (hn:(plc p i j).n=n) (hc:lW (qI m i) (frm p i j) a) (hst:a.settled (wE (plc p i j)).toNat=false) (hk1:1≤a.k)
   (hN:N+a.k≤(wE (plc p i j)).toNat) (hs:xE (frm p i j) (bs p.caps n) (vA (frm p i j) (bs p.caps n) (cp p.caps n) (plc p i j)) N a=some (e,fl)) (hd:a.dat.length=cp p.caps n)
   (hf:fl=true→(thd s i).st=2) (hg:fl=false→(thd s i).st=0∧(thd s i).at_=(if e.k=0 then (j:Int) else j+1)∧e.low=(thd s i).regs)
   (hh:a.hold=true→own n=some i∧qB4 m.mem.cells (bs p.caps n) a∧hX m.mem.cells (bs p.caps n) (cp p.caps n) (qI m i).view∧xR e (chn s n))
   (ho :∀n',own n'=some i→n'=n∧a.hold=true)
structure qFk (p:wT) (m:qO) (s:qS) (own:Nat→Option Nat) (n:Nat):Prop where
 free:own n=none→jG m.mem.cells (bs p.caps n)=0∧hX m.mem.cells (bs p.caps n) (cp p.caps n) ((m.mem.cells.getD (bs p.caps n) []).getD ((m.mem.cells.getD (bs p.caps n) []).length-1) default).view∧∃a:So,a.dat.length=cp p.caps n∧qB4 m.mem.cells (bs p.caps n) a∧xR a (chn s n)
 held :∀i,own n=some i→i<m.cores.length∧jG m.mem.cells (bs p.caps n)=1
structure Inv (p:wT) (m:qO) (s:qS):Prop where
 mok:MOk m
 codes:m.codes=p.bods.map (comp p.caps)
 prog:jF p=true
 lie:zQ p.caps=true
 src:qY p s=true
 tr:m.tr=s.tr
 own :∃own:Nat→Option Nat,(∀i,i<m.cores.length→tU p m s own i)∧(∀n,n<p.caps.length→qFk p m s own n)
theorem tU.frame {p:wT} {m m':qO} {s s':qS} {own own':Nat→Option Nat} {i:Nat} (h:tU p m s own i) (h1:qI m' i=qI m i) (h2:thd s' i=thd s i) (h3 :∀n,own' n=some i↔own n=some i)
  (h4 :∀n,own n=some i→(∀c,bs p.caps n+1≤c→c<bs p.caps n+4+cp p.caps n→m'.mem.cells.getD c []=m.mem.cells.getD c [])∧chn s' n=chn s n):tU p m' s' own' i:=by
 cases h with
 | over h hs ho=>exact .over (by rw [h1]; exact h) (by rw [h1,h2]; exact hs) (fun n e=>ho n ((h3 n).1 e))
 | out k h hs ha hr hk ho=>exact .out k (by rw [h1]; exact h) (by rw [h2]; exact hs) (by rw [h1,h2]; exact ha) (by rw [h1,h2]; exact hr) (by rw [h1,h2]; exact hk) (fun n e=>ho n ((h3 n).1 e))
 | inner j n N a e fl hj hx hn hc hst hk1 hN hs hd hf hg hh ho =>
  refine .inner j n N a e fl hj hx hn (by rw [h1]; exact hc) hst hk1 hN hs hd (by rw [h2]; exact hf) (by rw [h2]; exact hg) (fun hhold=>?_) (fun n' e=>ho n' ((h3 n').1 e))
  obtain ⟨a1,a2,a3,a4⟩:=hh hhold
  obtain ⟨f1,f2⟩:=h4 n a1
  have hl :∀c,bs p.caps n+1≤c→c<bs p.caps n+4+cp p.caps n→jG m'.mem.cells c=jG m.mem.cells c:=fun c hc1 hc2=>by unfold jG; rw [f1 c hc1 hc2]
  refine ⟨(h3 n).2 a1,⟨?_,?_,?_,fun q hq=>?_⟩,fun q hq1 hq2=>?_,by rw [f2]; exact a4⟩
  ·rw [hl _ (by omega) (by omega)]; exact a2.fst
  ·rw [hl _ (by omega) (by omega)]; exact a2.cnt
  ·rw [hl _ (by omega) (by omega)]; exact a2.cls
  ·rw [hl _ (by omega) (by omega)]; exact a2.dat q hq
  ·rw [h1,f1 _ (by omega) (by omega)]; exact a3 q hq1 hq2
theorem qFk.frame {p:wT} {m m':qO} {s s':qS} {own own':Nat→Option Nat} {n:Nat} (h:qFk p m s own n) (h1:own' n=own n) (h2 :∀c,bs p.caps n≤c→c<bs p.caps n+4+cp p.caps n→own n=none→m'.mem.cells.getD c []=m.mem.cells.getD c [])
  (h3 :∀i,own n=some i→jG m'.mem.cells (bs p.caps n)=1) (h4:own n=none→chn s' n=chn s n) (h5:m'.cores.length=m.cores.length):qFk p m' s' own' n:=by
 refine ⟨fun e=>?_,fun i e=>?_⟩
 ·rw [h1] at e
  obtain ⟨a1,a2,a,a3,a4,a5⟩:=h.free e
  have hg :∀c,bs p.caps n≤c→c<bs p.caps n+4+cp p.caps n→m'.mem.cells.getD c []=m.mem.cells.getD c []:=fun c h6 h7=>h2 c h6 h7 e
  have hl :∀c,bs p.caps n≤c→c<bs p.caps n+4+cp p.caps n→jG m'.mem.cells c=jG m.mem.cells c:=fun c hc1 hc2=>by unfold jG; rw [hg c hc1 hc2]
  refine ⟨by rw [hl _ (by omega) (by omega)]; exact a1,?_,a,a3,⟨?_,?_,?_,fun q hq=>?_⟩,by rw [h4 e]; exact a5⟩
  ·rw [hg _ (by omega) (by omega)]
   intro q hq1 hq2
   rw [hg _ (by omega) (by omega)]
   exact a2 q hq1 hq2
  ·rw [hl _ (by omega) (by omega)]; exact a4.fst
  ·rw [hl _ (by omega) (by omega)]; exact a4.cnt
  ·rw [hl _ (by omega) (by omega)]; exact a4.cls
  ·rw [hl _ (by omega) (by omega)]; exact a4.dat q hq
 ·rw [h1] at e
  exact ⟨by rw [h5]; exact (h.held i e).1,h3 i e⟩
structure Fix (p:wT) (m:qO) (s:qS) (i:Nat):Prop where
 hi:i<m.cores.length
 hb:i<p.bods.length
 ht:i<s.ths.length
 bok:wJ (body p i) p.caps.length=true
 code:m.codes.getD i []=comp p.caps (body p i)
 regs:(thd s i).regs.length=4
 at0:0≤(thd s i).at_
 at1:(thd s i).at_.toNat<(body p i).length
 st:0≤(thd s i).st∧(thd s i).st≤2
theorem Inv.fix {p:wT} {m:qO} {s:qS} (h:Inv p m s) {i:Nat} (hi:i<m.cores.length):Fix p m s i:=by
 have hl:m.codes.length=p.bods.length:=by rw [h.codes,wB9]
 have hc:=h.mok.cores
 have hs:=(yW p s).1 h.src
 have ht:i<s.ths.length:=by omega
 have ha:=tQ h.src ht
 have hth:=hs.2.2.2.2.1 i ht
 simp only [vP,qZ8,decide_eq_true_eq,qK] at hth
 refine ⟨hi,by omega,ht,(mT h.prog).2.2.2.2 _ (yL p.bods i [] (by omega)),?_,ha.regs,ha.at0,ha.at1,by unfold thd; omega⟩
 rw [h.codes]
 unfold body
 simp [qZa,show i<p.bods.length by omega]
theorem Fix.ins {p:wT} {m:qO} {s:qS} {i:Nat} (F:Fix p m s i) {j:Nat} (hj:j<(body p i).length):jR (plc p i j) (body p i).length p.caps.length=true:=qF7 F.bok j hj
theorem Fix.op {p:wT} {m:qO} {s:qS} {i:Nat} (F:Fix p m s i) {j:Nat} (hj:j<(body p i).length):1≤(plc p i j).op∧(plc p i j).op≤13∧Op4 (plc p i j):=by
 obtain ⟨a,b,c,d⟩:=nL (F.ins hj)
 rw [qK] at a b c d
 exact ⟨a.1,a.2,by omega,by omega,by omega,by omega,by omega,by omega⟩
theorem sX {p:wT} {i j:Nat} (hj:j<(body p i).length):frm p i (j+1)=frm p i j+wE (plc p i j):=mI (body p i) j hj
theorem qNr (p:wT) (i j:Nat):0≤frm p i j:=(qB8 (body p i) j).1
theorem Fix.last {p:wT} {m:qO} {s:qS} {i:Nat} (F:Fix p m s i) {j:Nat} (hj:j<(body p i).length) (h11:(plc p i j).op≠11) (h13:(plc p i j).op≠13):j+1<(body p i).length:=by
 have hb:=F.bok
 unfold wJ aD at hb
 simp only [qZ8,qZj,decide_eq_true_eq] at hb
 have hl:=hb.2
 rcases Nat.lt_or_ge (j+1) (body p i).length with h | h
 ·exact h
 ·exfalso
  have e:(body p i).length-1=j:=by omega
  rw [e] at hl
  unfold plc at h11 h13
  omega
theorem Fix.size {p:wT} {m:qO} {s:qS} {i:Nat} (F:Fix p m s i) {j:Nat} (hj:j<(body p i).length):1≤wE (plc p i j):=by
 have:=F.op hj
 exact qJd ⟨this.1,this.2.1⟩
theorem Fix.frm_lt {p:wT} {m:qO} {s:qS} {i:Nat} (F:Fix p m s i) (hl:zQ p.caps=true) {j:Nat} (hj:j<(body p i).length):frm p i j+wE (plc p i j)≤((m.codes.getD i []).length:Int):=by
 rw [F.code,qRw F.bok hl]
 rw [←sX hj]
 by_cases e:j+1=(body p i).length
 ·unfold frm
  rw [e,wB7]
  omega
 ·have:=qKf (b:=body p i) (fun q hq=>F.size hq) (j+1) (body p i).length (by omega) (qZ7 _)
  rw [wB7] at this
  exact Int.le_of_lt this
theorem Fix.frm_lt2 {p:wT} {m:qO} {s:qS} {i:Nat} (F:Fix p m s i) (hl:zQ p.caps=true) {j:Nat} (hj:j<(body p i).length):frm p i j<((m.codes.getD i []).length:Int):=by
 have:=F.frm_lt hl hj
 have:=F.size hj
 omega
theorem Fix.step {p:wT} {m:qO} {s:qS} {i:Nat} (F:Fix p m s i) (hl:zQ p.caps=true) {j k:Nat} (hj:j<(body p i).length) (hk:(k:Int)<wE (plc p i j)) (ha:(qI m i).at_=frm p i j+k) :
  qN m i=(tD p.caps (plc p i j) (frm p i j) (gQ (body p i))).getD k default∧dK (body p i) 0 0 (qI m i).at_=((j:Int),decide (k=0)):=by
 have h0:=qNr p i j
 constructor
 ·unfold qN
  rw [F.code]
  have:=(qUw F.bok hl hj hk).2
  rw [show (qI m i).at_.toNat=(szB ((body p i).take j)).toNat+k by rw [ha]; unfold frm at h0⊢; omega]
  exact this
 ·rw [qDx (body p i) 0 0 (qI m i).at_ j hj (by rw [ha]; unfold frm; omega) (by rw [ha,mI _ _ hj]; unfold frm; unfold plc at hk; omega)]
  refine Prod.ext (by simp) ?_
  show decide (_=_)=_
  rw [ha]
  congr 1
  apply propext
  unfold frm
  constructor<;>intro e<;>omega
theorem Fix.chan {p:wT} {m:qO} {s:qS} {i:Nat} (F:Fix p m s i) (hl:zQ p.caps=true) {j:Nat} (hj:j<(body p i).length) (hx:eU (plc p i j)) :
  ∃n:Nat,(plc p i j).n=n∧n<p.caps.length∧tD p.caps (plc p i j) (frm p i j) (gQ (body p i))=vA (frm p i j) (bs p.caps n) (cp p.caps n) (plc p i j)∧((vA (frm p i j) (bs p.caps n) (cp p.caps n) (plc p i j)).length:Int)=wE (plc p i j):=by
 have hin:=F.ins hj
 obtain ⟨n0,n1⟩:=qEj hin hx.1 hx.2
 obtain ⟨n,hn⟩:=wB8 n0
 have hnl:n<p.caps.length:=by omega
 obtain ⟨e1,e2,_,_,_⟩:=xH hl hnl
 have he:tD p.caps (plc p i j) (frm p i j) (gQ (body p i))=vA (frm p i j) (bs p.caps n) (cp p.caps n) (plc p i j):=by
  unfold tD vA
  rw [show (gQ (body p i)).length=(body p i).length from xW _ _,hin,if_pos rfl,qK.2 hx,if_pos rfl,hn,e1,if_neg (by omega),wAz,e2]
 refine ⟨n,hn,hnl,he,?_⟩
 rw [←he]
 exact qCw F.bok hl j hj _
theorem Fix.commits {p:wT} {m:qO} {s:qS} {i:Nat} (F:Fix p m s i) (hl:zQ p.caps=true) {j k:Nat} (hj:j<(body p i).length) (hk:(k:Int)<wE (plc p i j)) (ha:(qI m i).at_=frm p i j+k) (t:yU) (regs:List Int) :
  kH p t regs i (qI m i).at_=((decide (t.op=8)&&qT t.r 0 (regs.length-1)&&decide (regs.getD t.r.toNat 0=0))||decide (wE (plc p i j)=1)):=by
 have hp:=(F.step hl hj hk ha).2
 have hb:=F.hb
 unfold kH
 have d:decide ((i:Int)<(p.bods.length:Int))=true:=by simp; exact hb
 rw [d,wAz]
 show (true&&decide (0≤(dK (body p i) 0 0 (qI m i).at_).1)&&_)=_
 rw [show p.bods.getD i []=body p i from rfl,hp]
 simp only [wAz]
 have d2:decide (0≤(j:Int))=true:=by simp
 rw [d2]
 rfl
theorem qJj {p:wT} {m:qO} {s:qS} (h:Inv p m s) {n:Nat} (hn:n<p.caps.length):n<s.chs.length∧jJ (chn s n)=true∧(chn s n).cap=cp p.caps n:=by
 have hs:=(yW p s).1 h.src
 have hl:n<s.chs.length:=by omega
 obtain ⟨a,b⟩:=hs.2.2.2.2.2 n hl
 exact ⟨hl,a,by unfold chn; rw [b]; exact (xH h.lie hn).2.1⟩
theorem Fix.one {p:wT} {m:qO} {s:qS} {i:Nat} (F:Fix p m s i) (hl:zQ p.caps=true) {j:Nat} (hj:j<(body p i).length) (hx :¬eU (plc p i j)):tD p.caps (plc p i j) (frm p i j) (gQ (body p i))=[single (plc p i j) (gQ (body p i))]∧wE (plc p i j)=1:=by
 have hin:=F.ins hj
 have ho:=F.op hj
 refine ⟨?_,qJe ⟨ho.1,ho.2.1⟩ hx⟩
 unfold tD
 rw [show (gQ (body p i)).length=(body p i).length from xW _ _,hin,if_pos rfl]
 have hw:qT (plc p i j).op 5 9=false:=by
  cases h:qT (plc p i j).op 5 9
  ·rfl
  ·exact absurd (qK.1 h) hx
 rw [hw]
 rfl
theorem oE {s:qS} {i:Nat} (t:yJ) (hi:i<s.ths.length) (chs:List jN) (tr:List bS) (j:Nat):thd ⟨s.ths.set i t,chs,tr⟩ j=if j=i then t else thd s j:=by
 unfold thd
 exact fV _ _ _ _ _ hi
theorem Inv.go1 {p:wT} {m:qO} {s:qS} {own:Nat→Option Nat} {i:Nat} (h:Inv p m s) (hC :∀i,i<m.cores.length→tU p m s own i) (hN :∀n,n<p.caps.length→qFk p m s own n) (hi:i<m.cores.length) {K':uE} {tr':List bS} {t':yJ}
  (hm:yV m ⟨i,0⟩=({dI m i K' with tr:=tr'},0)) (hsrc:qY p ⟨s.ths.set i t',s.chs,tr'⟩=true)
  (hci:(K'.st≠0∧t'.st=K'.st)∨(K'.st=0∧t'.st=0∧K'.at_=frm p i t'.at_.toNat∧K'.regs.take 4=t'.regs)) (hno :∀n,own n≠some i):Inv p {dI m i K' with tr:=tr'} ⟨s.ths.set i t',s.chs,tr'⟩:=by
 have F:=h.fix hi
 have hM':MOk {dI m i K' with tr:=tr'}:=by
  have:=nA ⟨i,0⟩ ((jS m).2 h.mok)
  rw [hm] at this
  exact (jS _).1 this
 refine ⟨hM',h.codes,h.prog,h.lie,hsrc,rfl,own,fun j hj=>?_,fun n hn=>?_⟩
 ·by_cases e:j=i
  ·subst e
   have hself:qI {dI m j K' with tr:=tr'} j=K':=vE m j K' hi
   have ht:thd ⟨s.ths.set j t',s.chs,tr'⟩ j=t':=by rw [oE _ F.ht,if_pos rfl]
   rcases hci with ⟨c1,c2⟩ | ⟨c1,c2,c3,c4⟩
   ·exact .over (by rw [hself]; exact c1) (by rw [hself,ht]; exact c2) hno
   ·exact .out 0 (by rw [hself]; exact c1) (by rw [ht]; exact c2) (by rw [hself,ht,c3]; simp) (by rw [hself,ht]; exact c4) (.inl rfl) hno
  ·refine (hC j (by simpa [dI] using hj)).frame (aO m i j K' e) ?_ (fun _=>Iff.rfl) (fun n _=>⟨fun _ _ _=>rfl,rfl⟩)
   rw [oE _ F.ht,if_neg e]
 ·exact (hN n hn).frame rfl (fun _ _ _ _=>rfl) (fun j e=>((hN n hn).held j e).2) (fun _=>rfl) (iV m i K')
theorem qQd {l:List Int} {r:Int} {v:Int}:(l.set r.toNat v).take 4=(l.take 4).set r.toNat v:=by rw [List.take_set]
theorem qPa {K:uE} {th:yJ} {r:Int} (h:K.regs.take 4=th.regs) (h0:0≤r) (h1:r<4):rg K r=reg th r:=by
 unfold rg reg
 rw [←h]
 simp [qZa,List.getElem?_take,show r.toNat<4 by omega]
theorem mJ {p:wT} {s:qS} {i:Nat} (hi:i<s.ths.length) (hst:(thd s i).st=0):wQ p s i=if (ins p s i).op=10∧(s.tr.length:Int)=4000 then 3 else if¬(ins p s i).op=5∧¬(ins p s i).op=6 then 0
  else if (chn s (ins p s i).n.toNat).closed=false∧(((ins p s i).op=5∧((chn s (ins p s i).n.toNat).list.length:Int)=(chn s (ins p s i).n.toNat).cap)∨((ins p s i).op=6∧((chn s (ins p s i).n.toNat).list.length:Int)=0)) then 4 else 0:=by
 unfold wQ
 have hw:qT (i:Int) 0 ((s.ths.length:Int)-1)=true:=by rw [qK]; omega
 rw [hw,if_neg (by decide),wAz]
 have hst':(s.ths.getD i default).st=0:=hst
 rw [hst']
 simp only [not_true,false_or]
 rfl
theorem Inv.single {p:wT} {m:qO} {s:qS} {own:Nat→Option Nat} {i:Nat} (h:Inv p m s) (hC :∀i,i<m.cores.length→tU p m s own i) (hN :∀n,n<p.caps.length→qFk p m s own n) (hi:i<m.cores.length)
  (hst:(qI m i).st=0) (hs:(thd s i).st=0) (ha:(qI m i).at_=frm p i (thd s i).at_.toNat) (hr:(qI m i).regs.take 4=(thd s i).regs) (hno :∀n,own n≠some i) (hx :¬eU (plc p i (thd s i).at_.toNat)) :
  (∀late,yV m ⟨i,late⟩=(m,3))∨∃m',(∀late,yV m ⟨i,late⟩=(m',0))∧wQ p s i=0∧Inv p m' (wG p s i):=by
 have F:=h.fix hi
 obtain ⟨j,hj⟩:=wB8 F.at0
 have hjn:(thd s i).at_.toNat=j:=by rw [hj]; rfl
 have hxe:plc p i j=Go.Sep.ins p s i:=by rw [←hjn]; rfl
 have hjl:=F.at1
 rw [hjn] at ha hx hjl
 have hinx:=F.ins hjl
 obtain ⟨o1,o2,o4⟩:=F.op hjl
 have hone:=F.one h.lie hjl hx
 have hstep:=(F.step h.lie hjl (k:=0) (by rw [hone.2]; decide) (by rw [ha]; simp)).1
 rw [hone.1,List.getD_cons_zero] at hstep
 have hlast:=fun a b=>F.last hjl a b
 have hsrc:=mJ (p:=p) F.ht hs
 have hcs:=@iC p s i h.src F.ht
 have htr:=h.tr
 have hfs:=sX hjl
 rw [hone.2] at hfs
 have hlt2:=fun q hq=>F.frm_lt2 h.lie (j:=q) hq
 have hjm:(plc p i j).op=11∨(plc p i j).op=12→0≤(plc p i j).n∧(plc p i j).n.toNat<(body p i).length:=fun e=>by
  have:=qLk hinx e
  omega
 have hsg :∀q,q<(body p i).length→(gQ (body p i)).getD q 0=frm p i q:=fun q hq=>qIk (body p i) _ q hq
 have hdo:wG p s i=wG p s i:=rfl
 conv at hdo=>rhs; unfold wG
 rw [←hxe] at hsrc hcs hdo
 have hth:s.ths.getD i default=thd s i:=rfl
 rw [hth,hj] at hdo
 have hbl:((p.bods.getD i []).length:Int)=(body p i).length:=rfl
 have hgo :∀(S:qS) (t:yJ) (q:Int),q<(body p i).length→vJ p S i t true q=⟨S.ths.set i ⟨q,t.regs,t.st⟩,S.chs,S.tr⟩:=fun S t q hq=>by
  unfold vJ
  rw [hbl,if_neg (by simp; omega)]
 generalize plc p i j=x at *
 have hcase:x.op=1∨x.op=2∨x.op=3∨x.op=4∨x.op=10∨x.op=11∨x.op=12∨x.op=13:=by unfold eU at hx; omega
 have alu :∀(v:Int),x.op≤4→(qN m i).op≤4→Go.Sep.alu (qI m i) (qN m i) = {qI m i with regs:=(qI m i).regs.set x.r.toNat v}→wG p s i=vJ p s i (wU (thd s i) x.r v) true ((j:Int)+1)→
   ∃m',(∀late,yV m ⟨i,late⟩=(m',0))∧wQ p s i=0∧Inv p m' (wG p s i):=by
  intro v ho ho' hal hd
  have hl:=hlast (by omega) (by omega)
  have hn:gG (qI m i) (qN m i)=(qI m i).at_+1:=by unfold gG; rw [if_neg (by omega),if_neg (by omega)]
  have hm0:eJ (qN m i).op=false:=by
   unfold eJ
   have h5 :¬(qN m i).op=5:=by omega
   have h6 :¬(qN m i).op=6:=by omega
   have h7 :¬(qN m i).op=7:=by omega
   have h8 :¬(qN m i).op=8:=by omega
   simp [h5,h6,h7,h8]
  have hml:=fun late=>@eG m i late hi hst (by omega) (by omega) (by omega) hm0 (by rw [hn,ha]; have:=hlt2 (j+1) hl; omega)
  rw [hgo _ _ _ (by omega)] at hd
  have hs0:qY p (wG p s i)=true:=hcs (by omega)
  rw [hd] at hs0
  refine ⟨_,hml,by rw [hsrc,if_neg (by omega),if_pos (by omega)],?_⟩
  rw [hd]
  have:=h.go1 hC hN hi (K':={Go.Sep.alu (qI m i) (qN m i) with at_:=gG (qI m i) (qN m i)}) (tr':=s.tr) (t':=⟨(j:Int)+1,(thd s i).regs.set x.r.toNat v,(thd s i).st⟩) (by rw [hml 0,←htr]; rfl) hs0 (.inr ?_) hno
  ·rw [←htr] at this⊢
   exact this
  ·rw [hal,hn]
   refine ⟨hst,hs,?_,?_⟩
   ·show (qI m i).at_+1=frm p i ((j:Int)+1).toNat
    rw [show ((j:Int)+1).toNat=j+1 by omega,hfs,ha]
   ·show ((qI m i).regs.set x.r.toNat v).take 4=_
    rw [qQd,hr]
 obtain ⟨r0,r1,a0,a1,b0,b1⟩:=o4
 have ga:=qPa hr a0 a1
 have gb:=qPa hr b0 b1
 rcases hcase with ho | ho | ho | ho | ho | ho | ho | ho
 ·have ht:qN m i=⟨1,x.r,0,0,x.n⟩:=by rw [hstep]; simp [Go.Sep.single,ho]
  exact .inr (alu x.n (by omega) (by rw [ht]; simp) (by rw [ht]; simp [Go.Sep.alu,qA3]) (by rw [hdo,if_pos ho]))
 ·have ht:qN m i=⟨2,x.r,x.a,x.b,0⟩:=by rw [hstep]; simp [Go.Sep.single,ho]
  exact .inr (alu _ (by omega) (by rw [ht]; simp) (by rw [ht]; simp [Go.Sep.alu,qA3,ga,gb]; rfl) (by rw [hdo,if_neg (by omega),if_pos (by omega),ho]; simp [xC]))
 ·have ht:qN m i=⟨3,x.r,x.a,x.b,0⟩:=by rw [hstep]; simp [Go.Sep.single,ho]
  exact .inr (alu _ (by omega) (by rw [ht]; simp) (by rw [ht]; simp [Go.Sep.alu,qA3,ga,gb]; rfl) (by rw [hdo,if_neg (by omega),if_pos (by omega),ho]; simp [xC]))
 ·have ht:qN m i=⟨4,x.r,x.a,x.b,0⟩:=by rw [hstep]; simp [Go.Sep.single,ho]
  exact .inr (alu _ (by omega) (by rw [ht]; simp) (by rw [ht]; simp [Go.Sep.alu,qA3,ga,gb]; rfl) (by rw [hdo,if_neg (by omega),if_pos (by omega),ho]; simp [xC]))
 ·
  have ht:qN m i=⟨9,0,x.a,0,0⟩:=by rw [hstep]; simp [Go.Sep.single,ho]
  have hl:=hlast (by omega) (by omega)
  by_cases hful:(s.tr.length:Int)=4000
  ·left
   intro late
   refine cV ?_
   rw [cK hi,if_pos (.inr ⟨by rw [ht],by rw [htr]; exact hful⟩)]
  right
  have hml :∀late,yV m ⟨i,late⟩=({dI m i {qI m i with at_:=(qI m i).at_+1} with tr:=s.tr++[⟨i,reg (thd s i) x.a⟩]},0):=by
   intro late
   have hmc:eH m i=0:=by
    rw [cK hi,if_neg (by rw [hst,htr]; simp; intro _; exact hful),ht]
    simp [eJ]
   rw [nB hmc]
   unfold mdo
   simp only
   rw [ht]
   simp only
   rw [if_neg (by decide),if_neg (by decide),if_neg (by decide),if_pos trivial]
   unfold qG1
   rw [if_neg (by rw [ha]; have:=hlt2 (j+1) hl; simp only; omega),ga,htr]
   rfl
  have hd:wG p s i=⟨s.ths.set i ⟨(j:Int)+1,(thd s i).regs,(thd s i).st⟩,s.chs,s.tr++[⟨i,reg (thd s i) x.a⟩]⟩:=by
   rw [hdo,if_neg (by omega),if_neg (by omega),if_pos ho,hgo _ _ _ (by omega)]
  have hs0:qY p (wG p s i)=true:=hcs (fun _=>by
   have:=((yW p s).1 h.src).2.2.2.1
   unfold zK at this
   simp only [qZ8,decide_eq_true_eq] at this
   omega)
  rw [hd] at hs0
  refine ⟨_,hml,by rw [hsrc,if_neg (by omega),if_pos (by omega)],?_⟩
  rw [hd]
  exact h.go1 hC hN hi (t':=⟨(j:Int)+1,(thd s i).regs,(thd s i).st⟩) (hml 0) hs0 (.inr ⟨hst,hs,by show (qI m i).at_+1=frm p i ((j:Int)+1).toNat; rw [show ((j:Int)+1).toNat=j+1 by omega,hfs,ha],hr⟩) hno
 ·
  have hjm:=hjm (.inl ho)
  have ht:qN m i=⟨10,0,0,0,frm p i x.n.toNat⟩:=by rw [hstep,←hsg _ hjm.2]; simp [Go.Sep.single,ho]
  have hml :∀late,yV m ⟨i,late⟩=(dI m i {qI m i with at_:=frm p i x.n.toNat},0):=by
   intro late
   rw [@eG m i late hi hst (by rw [ht]; simp) (by rw [ht]; simp) (by rw [ht]; simp) (by rw [ht]; rfl) (by rw [ht]; exact hlt2 _ hjm.2),ht]
   rfl
  have hd:wG p s i=⟨s.ths.set i ⟨x.n,(thd s i).regs,(thd s i).st⟩,s.chs,s.tr⟩:=by
   rw [hdo,if_neg (by omega),if_neg (by omega),if_neg (by omega),if_pos ho,hgo _ _ _ (by omega)]
  have hs0:qY p (wG p s i)=true:=hcs (by omega)
  rw [hd] at hs0
  refine .inr ⟨_,hml,by rw [hsrc,if_neg (by omega),if_pos (by omega)],?_⟩
  rw [hd]
  have:=h.go1 hC hN hi (K':={qI m i with at_:=frm p i x.n.toNat}) (tr':=s.tr) (t':=⟨x.n,(thd s i).regs,(thd s i).st⟩) (by rw [hml 0,←htr]; rfl) hs0 (.inr ⟨hst,hs,rfl,hr⟩) hno
  rw [←htr] at this⊢
  exact this
 ·
  have hjm:=hjm (.inr ho)
  have hl:=hlast (by omega) (by omega)
  have ht:qN m i=⟨11,0,x.a,0,frm p i x.n.toNat⟩:=by rw [hstep,←hsg _ hjm.2]; simp [Go.Sep.single,ho]
  have hz :∀q:Int,0≤q→q<(body p i).length→(if reg (thd s i) x.a=0 then x.n else (j:Int)+1)=q→gG (qI m i) (qN m i)=frm p i q.toNat→
    ∃m',(∀late,yV m ⟨i,late⟩=(m',0))∧wQ p s i=0∧Inv p m' (wG p s i):=by
   intro q hq0 hq he hnx
   have hml :∀late,yV m ⟨i,late⟩=(dI m i {qI m i with at_:=frm p i q.toNat},0):=by
    intro late
    rw [@eG m i late hi hst (by rw [ht]; simp) (by rw [ht]; simp) (by rw [ht]; simp) (by rw [ht]; rfl) (by rw [hnx]; exact hlt2 _ (by omega)),hnx,ht]
    rfl
   have hd:wG p s i=⟨s.ths.set i ⟨q,(thd s i).regs,(thd s i).st⟩,s.chs,s.tr⟩:=by
    rw [hdo,if_neg (by omega),if_neg (by omega),if_neg (by omega),if_neg (by omega),if_pos ho,he,hgo _ _ _ (by omega)]
   have hs0:qY p (wG p s i)=true:=hcs (by omega)
   rw [hd] at hs0
   refine ⟨_,hml,by rw [hsrc,if_neg (by omega),if_pos (by omega)],?_⟩
   rw [hd]
   have:=h.go1 hC hN hi (K':={qI m i with at_:=frm p i q.toNat}) (tr':=s.tr) (t':=⟨q,(thd s i).regs,(thd s i).st⟩) (by rw [hml 0,←htr]; rfl) hs0 (.inr ⟨hst,hs,rfl,hr⟩) hno
   rw [←htr] at this⊢
   exact this
  right
  by_cases hz0:reg (thd s i) x.a=0
  ·refine hz x.n hjm.1 (by omega) (by rw [if_pos hz0]) ?_
   rw [ht]
   unfold gG
   simp only
   rw [if_neg (by decide),if_pos ⟨trivial,by rw [ga]; exact hz0⟩]
  ·refine hz ((j:Int)+1) (by omega) (by omega) (by rw [if_neg hz0]) ?_
   rw [ht]
   unfold gG
   simp only
   rw [if_neg (by decide),if_neg (by rw [ga]; exact fun e=>hz0 e.2),show ((j:Int)+1).toNat=j+1 by omega,hfs,ha]
 ·
  have ht:qN m i=⟨12,0,0,0,0⟩:=by rw [hstep]; simp [Go.Sep.single,ho]
  have hml :∀late,yV m ⟨i,late⟩=(dI m i {qI m i with st:=1},0):=by
   intro late
   rw [nB (qAl hi hst (by rw [ht]; simp) (by rw [ht]; rfl))]
   unfold mdo stop
   simp only
   rw [if_pos (by rw [ht])]
  have hd:wG p s i=⟨s.ths.set i ⟨j,(thd s i).regs,1⟩,s.chs,s.tr⟩:=by
   rw [hdo,if_neg (by omega),if_neg (by omega),if_neg (by omega),if_neg (by omega),if_neg (by omega),if_pos ho]
  have hs0:qY p (wG p s i)=true:=hcs (by omega)
  rw [hd] at hs0
  refine .inr ⟨_,hml,by rw [hsrc,if_neg (by omega),if_pos (by omega)],?_⟩
  rw [hd]
  have:=h.go1 hC hN hi (K':={qI m i with st:=1}) (tr':=s.tr) (t':=⟨j,(thd s i).regs,1⟩) (by rw [hml 0,←htr]; rfl) hs0 (.inl ⟨(by decide:(1:Int)≠0),rfl⟩) hno
  rw [←htr] at this⊢
  exact this
theorem Inv.build {p:wT} {m m':qO} {s s':qS} {own own':Nat→Option Nat} {i n0:Nat} (h:Inv p m s) (hC :∀i,i<m.cores.length→tU p m s own i) (hN :∀n,n<p.caps.length→qFk p m s own n) (hn0:n0<p.caps.length)
  (hm:MOk m') (hcodes:m'.codes=m.codes) (hlen:m'.cores.length=m.cores.length) (hother :∀j,j≠i→qI m' j=qI m j) (hsrc:qY p s'=true) (hths :∀j,j≠i→thd s' j=thd s j) (htr:m'.tr=s'.tr)
  (hci:tU p m' s' own' i) (hownj :∀j,j≠i→∀n,own' n=some j↔own n=some j) (hcells :∀c,¬(bs p.caps n0≤c∧c<bs p.caps n0+4+cp p.caps n0)→m'.mem.cells.getD c []=m.mem.cells.getD c [])
  (hdata :∀j,j≠i→own n0=some j→(∀c,bs p.caps n0+1≤c→c<bs p.caps n0+4+cp p.caps n0→m'.mem.cells.getD c []=m.mem.cells.getD c [])∧chn s' n0=chn s n0) (hchn :∀n,n≠n0→chn s' n=chn s n) (hown :∀n,n≠n0→own' n=own n)
  (hNI:qFk p m' s' own' n0):Inv p m' s':=by
 have hdis :∀n,n≠n0→n<p.caps.length→∀c,bs p.caps n≤c→c<bs p.caps n+4+cp p.caps n→m'.mem.cells.getD c []=m.mem.cells.getD c []:=by
  intro n hn hnl c h1 h2
  refine hcells c fun hh=>?_
  rcases Nat.lt_or_gt_of_ne hn with h3 | h3
  ·have:=qF4 h.lie h3 hn0
   omega
  ·have:=qF4 h.lie h3 hnl
   omega
 refine ⟨hm,by rw [hcodes,h.codes],h.prog,h.lie,hsrc,htr,own',fun j hj=>?_,fun n hn=>?_⟩
 ·by_cases e:j=i
  ·rw [e]; exact hci
  ·refine (hC j (by omega)).frame (hother j e) (hths j e) (hownj j e) (fun n hno=>?_)
   by_cases en:n=n0
   ·subst en
    exact hdata j e hno
   ·have hnl:n<p.caps.length:=by
     have hcj:=hC j (by omega)
     cases hcj with
     | over _ _ ho=>exact absurd hno (ho n)
     | out _ _ _ _ _ _ ho=>exact absurd hno (ho n)
     | inner j' n' N a e fl hj' hx hn' hc hst hk1 hN' hs hd hf hg hh ho =>
      obtain ⟨rfl,_⟩:=ho n hno
      have:=qEj ((h.fix (by omega:j<m.cores.length)).ins hj') hx.1 hx.2
      omega
    exact ⟨fun c h1 h2=>hdis n en hnl c (by omega) h2,hchn n en⟩
 ·by_cases en:n=n0
  ·rw [en]; exact hNI
  ·refine (hN n hn).frame (hown n en) (fun c h1 h2 _=>hdis n en hn c h1 h2) (fun j e=>?_) (fun _=>hchn n en) hlen
   have:=((hN n hn).held j e).2
   unfold jG at this⊢
   rw [hdis n en hn _ (qZ7 _) (by omega)]
   exact this
theorem qRb {cs:List (List wY)} {view:List Int} {c:Nat} (hm:qCk cs) (hv:VOk cs view) (hc:c<24):load cs view c 0 true=(jG cs c,join (view.set c (((cs.getD c []).length:Int)-1)) ((cs.getD c []).getD ((cs.getD c []).length-1) default).view):=by
 have h1:=(hm.cell c hc).1
 have h2:=hv.2 c hc
 have e:max (((cs.getD c []).length:Int)-1-max 0 0) (view.getD c 0)=((cs.getD c []).length:Int)-1:=by omega
 have e2:(((cs.getD c []).length:Int)-1).toNat=(cs.getD c []).length-1:=by omega
 unfold load jG
 simp only
 rw [e,e2,if_pos trivial]
theorem qTz {cs:List (List wY)} {c:Nat} (hm:qCk cs) (hc:c<24):VOk cs ((cs.getD c []).getD ((cs.getD c []).length-1) default).view:=by
 have h1:=(hm.cell c hc).1
 exact hm.view c hc _ (yL _ _ _ (by omega))
theorem qNb {m:qO} {i:Nat} {b:Nat} (hM:MOk m) (hi:i<m.cores.length) (hst:(qI m i).st=0) (ht:qN m i=⟨8,6,0,7,b⟩) (hb:b<24) (h7:(qI m i).regs.getD 7 0=1) (hn:(qI m i).at_+1<((m.codes.getD i []).length:Int)) :
  (∀late,yV m ⟨i,late⟩=(m,3))∨∃vw,vw=(join ((qI m i).view.set b (((m.mem.cells.getD b []).length:Int)-1)) ((m.mem.cells.getD b []).getD ((m.mem.cells.getD b []).length-1) default).view).set b ((m.mem.cells.getD b []).length:Int)∧
   ∀late,yV m ⟨i,late⟩=(dI {m with mem:=⟨m.mem.cells.set b (m.mem.cells.getD b []++[⟨1,vw⟩])⟩} i ⟨(qI m i).at_+1,(qI m i).regs.set 6 (jG m.mem.cells b),vw,0⟩,0):=by
 have hm:eJ (qN m i).op=true:=by rw [ht]; rfl
 have hK:=hM.core i hi
 rcases qAk hi hst hm with h3 | ⟨h0,_⟩
 ·exact .inl fun late=>cV h3
 refine .inr ⟨_,rfl,fun late=>?_⟩
 have hcell:uZ (qI m i) (qN m i)=b:=by
  unfold uZ
  rw [ht]
  simp
 rw [oL h0 hm hcell hb hn]
 have hrg:rg (qI m i) 7=1:=h7
 unfold dF
 rw [ht]
 simp only
 rw [if_neg (by decide),if_pos trivial,qRb hM.mem hK.view hb]
 simp only
 rw [rR,hrg,hst]
 rfl
theorem qNv {cs:List (List wY)} {b n:Nat} {view:List Int} {x:wY} (hm:qCk cs) (hv:VOk cs view) (h24:b+n+4≤24) (hc:hX cs b n ((cs.getD b []).getD ((cs.getD b []).length-1) default).view) :
  hX (cs.set b (cs.getD b []++[x])) b n ((join (view.set b (((cs.getD b []).length:Int)-1)) ((cs.getD b []).getD ((cs.getD b []).length-1) default).view).set b ((cs.getD b []).length:Int)):=by
 intro j hj1 hj2
 have hw:=qTz hm (c:=b) (by omega)
 have hl:=hm.len
 have h1:=hc j hj1 hj2
 have h2:=hv.2 (b+j) (by omega)
 have hjl:(join (view.set b (((cs.getD b []).length:Int)-1)) ((cs.getD b []).getD ((cs.getD b []).length-1) default).view).length=24:=by rw [nI _ _ (by rw [wAp,hv.1,hw.1]),wAp,hv.1]
 rw [uG _ _ _ _ _ (by omega),if_neg (by omega),zM _ (by omega),if_neg (by omega)]
 rw [qJ5 _ _ _ (by rw [wAp,hv.1]; omega) (by rw [hw.1]; omega),uG _ _ _ _ _ (by rw [hv.1]; omega),if_neg (by omega)]
 omega
def qT2 (K:uE) (k:Nat) (d:So) (hold:Bool):So:=⟨k,K.regs.take 4,K.regs.getD 4 0,K.regs.getD 5 0,K.regs.getD 6 0,K.regs.getD 7 0,d.fst,d.cnt,d.cls,d.dat,hold⟩
theorem qT1 {K:uE} {f:Int} {k:Nat} {d:So} {hold:Bool} (h8:K.regs.length=8) (ha:K.at_=f+k) (hst:K.st=0):lW K f (qT2 K k d hold):=by
 refine ⟨ha,?_,by simp [qT2,h8],hst⟩
 obtain ⟨a,r,v,st⟩:=K
 simp only at h8
 match r,h8 with
 | [r0,r1,r2,r3,r4,r5,r6,r7],_=>rfl
theorem qW9 (f b:Int) (X:List yU):(cW f b++X).getD 0 default=⟨1,7,0,0,1⟩∧(cW f b++X).getD 1 default=⟨8,6,0,7,b⟩∧(cW f b++X).getD 2 default=⟨11,0,6,0,f+4⟩∧(cW f b++X).getD 3 default=⟨10,0,0,0,f+0⟩:=⟨rfl,rfl,rfl,rfl⟩
theorem Inv.walk {p:wT} {m:qO} {s:qS} {own:Nat→Option Nat} {i:Nat} (h:Inv p m s) (hC :∀i,i<m.cores.length→tU p m s own i) (hN :∀n,n<p.caps.length→qFk p m s own n) (hi:i<m.cores.length) {K':uE}
  (hm:yV m ⟨i,0⟩=(dI m i K',0)) (hci:tU p (dI m i K') s own i):Inv p (dI m i K') s:=by
 have hM':MOk (dI m i K'):=by
  have:=nA ⟨i,0⟩ ((jS m).2 h.mok)
  rw [hm] at this
  exact (jS _).1 this
 refine ⟨hM',h.codes,h.prog,h.lie,h.src,h.tr,own,fun j hj=>?_,fun n hn=>?_⟩
 ·by_cases e:j=i
  ·rw [e]; exact hci
  ·exact (hC j (by simpa [dI] using hj)).frame (aO m i j K' e) rfl (fun _=>Iff.rfl) (fun n _=>⟨fun _ _ _=>rfl,rfl⟩)
 ·exact (hN n hn).frame rfl (fun _ _ _ _=>rfl) (fun j e=>((hN n hn).held j e).2) (fun _=>rfl) (iV m i K')
theorem mH {l:List Int} {r:Nat} {v:Int} (h:4≤r):(l.set r v).take 4=l.take 4:=by
 rw [List.take_set,List.set_eq_of_length_le (by simp; omega)]
theorem Inv.spin {p:wT} {m:qO} {s:qS} {own:Nat→Option Nat} {i:Nat}
  (h:Inv p m s) (hC :∀i,i<m.cores.length→tU p m s own i) (hN :∀n,n<p.caps.length→qFk p m s own n) (hi:i<m.cores.length) {k:Nat}
  (hst:(qI m i).st=0) (hs:(thd s i).st=0) (ha:(qI m i).at_=frm p i (thd s i).at_.toNat+k) (hr:(qI m i).regs.take 4=(thd s i).regs) (hno :∀n,own n≠some i) (hx:eU (plc p i (thd s i).at_.toNat))
  (hk:k=0∨k=1∧(qI m i).regs.getD 7 0=1∨k=2∧(qI m i).regs.getD 6 0≠0∨k=3) :
  (∀late,yV m ⟨i,late⟩=(m,3))∨∃m',(∀late,yV m ⟨i,late⟩=(m',0))∧
   ((((decide ((qN m i).op=8)&&qT (qN m i).r 0 ((qI m' i).regs.length-1)&&decide ((qI m' i).regs.getD (qN m i).r.toNat 0=0))=false)∧Inv p m' s)∨
    (((decide ((qN m i).op=8)&&qT (qN m i).r 0 ((qI m' i).regs.length-1)&&decide ((qI m' i).regs.getD (qN m i).r.toNat 0=0))=true)∧(wQ p s i=0∨wQ p s i=4)∧Inv p m' (qQ p s i).1)):=by
 have F:=h.fix hi
 have hxe:plc p i (thd s i).at_.toNat=Go.Sep.ins p s i:=rfl
 obtain ⟨j,hj⟩:=wB8 F.at0
 have hjl:=F.at1
 have hK:=h.mok.core i hi
 have hr8:=hK.regs
 have hsz:=eA hx
 have hin:=F.ins hjl
 obtain ⟨n,hn,hnl,hem,hlen⟩:=F.chan h.lie hjl hx
 obtain ⟨c1,c2,c3,c4,c5⟩:=xH h.lie hnl
 have hstep:=fun (q:Nat) (hq:q<4) (e:k=q)=>(F.step h.lie hjl (k:=k) (by omega) ha).1
 rw [hem] at hstep
 have hlk:=qW9 (frm p i (thd s i).at_.toNat) (bs p.caps n) (if (plc p i (thd s i).at_.toNat).op=5∨(plc p i (thd s i).at_.toNat).op=7 then rZ (frm p i (thd s i).at_.toNat) (bs p.caps n) (cp p.caps n) (plc p i (thd s i).at_.toNat) else if (plc p i (thd s i).at_.toNat).op=6∨(plc p i (thd s i).at_.toNat).op=8 then rP (frm p i (thd s i).at_.toNat) (bs p.caps n) (cp p.caps n) (plc p i (thd s i).at_.toNat) else lP (frm p i (thd s i).at_.toNat) (bs p.caps n))
 have hlt:=F.frm_lt h.lie hjl
 have hf0:=qNr p i (thd s i).at_.toNat
 have hloc:=fun (late:Int)=>@eG m i late hi hst
 rcases hk with rfl | ⟨rfl,h7⟩ | ⟨rfl,h6⟩ | rfl
 ·
  right
  have ht:qN m i=⟨1,7,0,0,1⟩:=by rw [hstep 0 (by omega) rfl]; exact hlk.1
  have hm :∀late,yV m ⟨i,late⟩=(dI m i ⟨(qI m i).at_+1,(qI m i).regs.set 7 1,(qI m i).view,0⟩,0):=by
   intro late
   rw [hloc late (by rw [ht]; simp) (by rw [ht]; simp) (by rw [ht]; simp) (by rw [ht]; rfl) (by rw [ht]; show (qI m i).at_+1<_; omega),ht,←hst]
   rfl
  refine ⟨_,hm,.inl ⟨by rw [ht]; simp,?_⟩⟩
  refine h.walk hC hN hi (hm 0) (.out 1 ?_ hs ?_ ?_ (.inr ⟨hx,.inl ⟨rfl,?_⟩⟩) hno)
  ·rw [vE m i _ hi]
  ·rw [vE m i _ hi]
   show (qI m i).at_+1=_
   omega
  ·rw [vE m i _ hi]
   show ((qI m i).regs.set 7 1).take 4=_
   rw [mH (by omega),hr]
  ·rw [vE m i _ hi]
   exact (iU (by omega)).trans (if_pos rfl)
 ·
  have ht:qN m i=⟨8,6,0,7,bs p.caps n⟩:=by rw [hstep 1 (by omega) rfl]; exact hlk.2.1
  rcases qNb h.mok hi hst ht (by omega) h7 (by omega) with hfu | ⟨vw,hvw,hm⟩
  ·exact .inl hfu
  right
  refine ⟨_,hm,?_⟩
  have hML:m.mem.cells.length=24:=h.mok.mem.len
  have hself:=vE {m with mem:=⟨m.mem.cells.set (bs p.caps n) (m.mem.cells.getD (bs p.caps n) []++[⟨1,vw⟩])⟩} i ⟨(qI m i).at_+1,(qI m i).regs.set 6 (jG m.mem.cells (bs p.caps n)),vw,0⟩ hi
  have hM':MOk (dI {m with mem:=⟨m.mem.cells.set (bs p.caps n) (m.mem.cells.getD (bs p.caps n) []++[⟨1,vw⟩])⟩} i ⟨(qI m i).at_+1,(qI m i).regs.set 6 (jG m.mem.cells (bs p.caps n)),vw,0⟩):=by
   have:=nA ⟨i,0⟩ ((jS m).2 h.mok)
   rw [hm] at this
   exact (jS _).1 this
  generalize hM1:dI {m with mem:=⟨m.mem.cells.set (bs p.caps n) (m.mem.cells.getD (bs p.caps n) []++[⟨1,vw⟩])⟩} i ⟨(qI m i).at_+1,(qI m i).regs.set 6 (jG m.mem.cells (bs p.caps n)),vw,0⟩=m' at *
  have hcel:m'.mem.cells=m.mem.cells.set (bs p.caps n) (m.mem.cells.getD (bs p.caps n) []++[⟨1,vw⟩]):=by rw [←hM1]; rfl
  have hcod:m'.codes=m.codes:=by rw [←hM1]; rfl
  have htr':m'.tr=m.tr:=by rw [←hM1]; rfl
  have hln:m'.cores.length=m.cores.length:=by rw [←hM1]; exact iV _ _ _
  have hoth :∀q,q≠i→qI m' q=qI m q:=fun q hq=>by rw [←hM1,aO _ _ _ _ hq]; rfl
  have hbl:bs p.caps n<m.mem.cells.length:=by omega
  have hlw :∀c,jG m'.mem.cells c=if c=bs p.caps n then 1 else jG m.mem.cells c:=fun c=>by rw [hcel,bO _ hbl]
  have hcg :∀c,c≠bs p.caps n→m'.mem.cells.getD c []=m.mem.cells.getD c []:=fun c hc=>by rw [hcel,zM _ hbl,if_neg hc]
  have hregs:(qI m' i).regs=(qI m i).regs.set 6 (jG m.mem.cells (bs p.caps n)):=by rw [hself]
  have hcond:(decide ((qN m i).op=8)&&qT (qN m i).r 0 ((qI m' i).regs.length-1)&&decide ((qI m' i).regs.getD (qN m i).r.toNat 0=0))=decide (jG m.mem.cells (bs p.caps n)=0):=by
   rw [ht,hregs]
   simp only [wAp,hr8]
   have hw:qT 6 0 ((8:Nat)-1:Int)=true:=by decide
   rw [hw,show (6:Int).toNat=6 from rfl,iU (by omega),if_pos rfl]
   simp
  rw [hcond]
  cases how:own n with
  | some q =>
   obtain ⟨q1,q2⟩:=(hN n hnl).held q how
   have hqi:q≠i:=fun e=>hno n (by rw [how,e])
   left
   refine ⟨by rw [q2]; decide,?_⟩
   refine h.build hC hN hnl hM' hcod hln hoth h.src (fun _ _=>rfl) (by rw [htr',h.tr]) (.out 2 ?_ hs ?_ ?_ (.inr ⟨hx,.inr (.inl ⟨rfl,?_⟩)⟩) hno) (fun _ _ _=>Iff.rfl) (fun c hc=>hcg c (by omega)) (fun j' hj' _=>⟨fun c e1 e2=>hcg c (by omega),rfl⟩) (fun _ _=>rfl) (fun _ _=>rfl) ?_
   ·rw [hself]
   ·rw [hself]
    show (qI m i).at_+1=_
    omega
   ·rw [hregs,mH (by omega),hr]
   ·rw [hregs,iU (by omega),if_pos rfl,q2]
    decide
   ·refine (hN n hnl).frame rfl (fun c e1 e2 e3=>by rw [how] at e3; exact absurd e3 (by simp)) (fun _ _=>by rw [hlw,if_pos rfl]) (fun _=>rfl) hln
  | none =>
   obtain ⟨f1,f2,d,f3,f4,f5⟩:=(hN n hnl).free how
   right
   obtain ⟨g1,g2,g3⟩:=qJj h hnl
   obtain ⟨_,_,o4⟩:=F.op hjl
   have hnt:(Go.Sep.ins p s i).n.toNat=n:=by rw [←hxe,hn]; simp
   have hne:(plc p i (thd s i).at_.toNat).op=6∨(plc p i (thd s i).at_.toNat).op=8→(plc p i (thd s i).at_.toNat).r≠(plc p i (thd s i).at_.toNat).b:=fun e=>by
    have hio:=hin
    unfold jR at hio
    intro er
    rcases e with e | e<;>simp [e,er] at hio
   have hgot:Got (qT2 (qI m' i) 2 d true) (thd s i) (chn s n):=by
    refine ⟨rfl,?_,F.regs,?_,rfl,f5.same rfl rfl rfl rfl,g2⟩
    ·show (qI m' i).regs.take 4=_
     rw [hregs,mH (by omega),hr]
    ·show (qI m' i).regs.getD 6 0=0
     rw [hregs,iU (by omega),if_pos rfl,f1]
   obtain ⟨e,fl,hso,hend⟩:=qY8 (frm p i (thd s i).at_.toNat) (bs p.caps n) _ _ _ _ hx o4 hne hgot
   rw [g3] at hso
   have hsrc:=mJ (p:=p) F.ht hs
   rw [hnt,←hxe,if_neg (by unfold eU at hx; omega)] at hsrc
   have hstep':((wQ p s i=4∧(e.k=0∧fl=false))∨(wQ p s i=0∧¬(e.k=0∧fl=false))):=by
    by_cases hwt:e.k=0∧fl=false
    ·left
     have hw:=hend.wait.1 hwt
     refine ⟨?_,hwt⟩
     rw [hsrc,if_neg (by rcases hw.2 with ⟨hh,_⟩ | ⟨hh,_⟩<;>omega),if_pos hw]
    ·right
     refine ⟨?_,hwt⟩
     rw [hsrc]
     split
     ·rfl
     ·rw [if_neg (fun hw=>hwt (hend.wait.2 hw))]
   refine ⟨by rw [f1]; decide,hstep'.elim (fun hh=>.inr hh.1) (fun hh=>.inl hh.1),?_⟩
   have hdo:wG p s i=vJ p ⟨s.ths,s.chs.set n (qW (thd s i) (chn s n) (plc p i (thd s i).at_.toNat)).2.1,s.tr⟩ i (qW (thd s i) (chn s n) (plc p i (thd s i).at_.toNat)).1 (qW (thd s i) (chn s n) (plc p i (thd s i).at_.toNat)).2.2 ((thd s i).at_+1):=by
    unfold eU at hx
    unfold wG
    rw [←hxe,if_neg (by omega),if_neg (by omega),if_neg (by omega),if_neg (by omega),if_neg (by omega),if_neg (by omega),hn,wAz]
    rfl
   have hlast:=F.last hjl (by unfold eU at hx; omega) (by unfold eU at hx; omega)
   have hths:=qBz (thd s i) (chn s n) (plc p i (thd s i).at_.toNat)
   have hs' :∃t' c',(qQ p s i).1=⟨s.ths.set i t',s.chs.set n c',s.tr⟩∧xR e c'∧(fl=true→t'.st=2)∧(fl=false→t'.st=0∧t'.at_=(if e.k=0 then (thd s i).at_ else (thd s i).at_+1)∧e.low=t'.regs):=by
    rcases hstep' with ⟨q1,q2,q3⟩ | ⟨q1,q2⟩
    ·refine ⟨thd s i,chn s n,?_,hend.ch0 q2 q3,fun e=>by rw [q3] at e; exact absurd e (by decide),fun _=>⟨hs,by rw [if_pos q2],?_⟩⟩
     ·unfold qQ
      rw [if_neg (by rw [q1]; decide)]
      unfold thd chn
      rw [vU _ _ _ F.ht,vU _ _ _ g1]
     ·exact (hend.wt q3 (by rw [q2]; omega)).2.1
    ·have hss:(qQ p s i).1=wG p s i:=by
      unfold qQ
      rw [if_pos q1]
      rfl
     rw [hss,hdo]
     unfold vJ
     cases hfl:fl with
     | true =>
      rw [if_pos (.inl (hend.flt hfl))]
      exact ⟨_,_,rfl,hend.ch1 (.inr hfl),fun _=>rfl,fun e=>absurd e (by decide)⟩
     | false =>
      have hk0:e.k≠0:=fun e0=>q2 ⟨e0,hfl⟩
      have hksz:e.k=(wE (plc p i (thd s i).at_.toNat)).toNat:=by
       apply Classical.byContradiction
       intro hne
       exact hk0 (hend.wt hfl hne).1
      obtain ⟨w1,w2,w3⟩:=hend.nxt hfl hksz
      have hbl2:((p.bods.getD i []).length:Int)=(body p i).length:=rfl
      rw [if_neg (by rw [w2,hbl2]; simp; omega)]
      exact ⟨_,_,rfl,hend.ch1 (.inl hk0),fun e=>absurd e (by decide),fun _=>⟨by rw [hths.2.1]; exact hs,by rw [if_neg hk0],w3⟩⟩
   obtain ⟨t',c',hS,hch,hfl,hgl⟩:=hs'
   have hsrcOk:qY p (qQ p s i).1=true:=by
    unfold qQ
    split
    ·exact iC h.src F.ht (fun e10=>by have e11:(Go.Sep.ins p s i).op=10:=e10; rw [←hxe] at e11; unfold eU at hx; omega)
    ·exact h.src
   rw [hS] at hsrcOk⊢
   have hthd :∀q,thd ⟨s.ths.set i t',s.chs.set n c',s.tr⟩ q=if q=i then t' else thd s q:=fun q=>oE t' F.ht _ _ q
   have hchn :∀q,chn ⟨s.ths.set i t',s.chs.set n c',s.tr⟩ q=if q=n then c' else chn s q:=fun q=>by
    unfold chn
    exact fV _ _ _ _ _ g1
   have hsz40:xE (frm p i (thd s i).at_.toNat) (bs p.caps n) (vA (frm p i (thd s i).at_.toNat) (bs p.caps n) (cp p.caps n) (plc p i (thd s i).at_.toNat)) ((wE (plc p i (thd s i).at_.toNat)).toNat-2) (qT2 (qI m' i) 2 d true)=some (e,fl):=by
    have:=qA2 hso
    have hl2:(vA (frm p i (thd s i).at_.toNat) (bs p.caps n) (cp p.caps n) (plc p i (thd s i).at_.toNat)).length=(wE (plc p i (thd s i).at_.toNat)).toNat:=by omega
    rw [hl2] at this
    exact this
   have hci:tU p m' ⟨s.ths.set i t',s.chs.set n c',s.tr⟩ (fun q=>if q=n then some i else own q) i:=by
    refine .inner (thd s i).at_.toNat n _ (qT2 (qI m' i) 2 d true) e fl hjl hx hn (qT1 (by rw [hregs,wAp]; exact hr8) ?_ ?_) ?_ (by decide:1≤2) ?_ hsz40 f3 ?_ ?_ ?_ ?_
    ·rw [hself]
     show (qI m i).at_+1=_
     omega
    ·rw [hself]
    ·show (!true&&_)=false
     rfl
    ·show (wE _).toNat-2+2≤_
     omega
    ·rw [hthd,if_pos rfl]; exact hfl
    ·rw [hthd,if_pos rfl]
     intro e0
     obtain ⟨y1,y2,y3⟩:=hgl e0
     refine ⟨y1,?_,y3⟩
     rw [y2,hj]
     simp
    ·intro _
     refine ⟨by simp,⟨?_,?_,?_,fun q hq=>?_⟩,?_,by rw [hchn,if_pos rfl]; exact hch⟩
     ·rw [hlw,if_neg (by omega)]; exact f4.fst
     ·rw [hlw,if_neg (by omega)]; exact f4.cnt
     ·rw [hlw,if_neg (by omega)]; exact f4.cls
     ·rw [hlw,if_neg (by omega)]; exact f4.dat q hq
     ·rw [hself,hcel,hvw]
      exact qNv h.mok.mem hK.view (by omega) f2
    ·intro n' e'
     by_cases en:n'=n
     ·exact ⟨en,rfl⟩
     ·exact absurd (by simpa [en] using e') (hno n')
   refine h.build hC hN hnl hM' hcod hln hoth hsrcOk (fun q hq=>by rw [hthd,if_neg hq]) (by rw [htr',h.tr]) hci (fun q hq n'=>?_) (fun c hc=>hcg c (by omega)) (fun q hq e=>by rw [how] at e; exact absurd e (by simp)) (fun q hq=>by rw [hchn,if_neg hq]) (fun q hq=>by simp [hq]) ⟨fun e=>by simp at e,fun q e=>?_⟩
   ·by_cases en:n'=n
    ·subst en
     simp [how,Ne.symm hq]
    ·simp [en]
   ·simp only [if_pos,Option.some.injEq] at e
    subst e
    exact ⟨by omega,by rw [hlw,if_pos rfl]⟩
 ·
  right
  have ht:qN m i=⟨11,0,6,0,frm p i (thd s i).at_.toNat+4⟩:=by rw [hstep 2 (by omega) rfl]; exact hlk.2.2.1
  have hnx:gG (qI m i) (qN m i)=(qI m i).at_+1:=by
   rw [ht]
   unfold gG
   simp only
   rw [if_neg (by decide),if_neg (fun e=>h6 e.2)]
  have hm :∀late,yV m ⟨i,late⟩=(dI m i ⟨(qI m i).at_+1,(qI m i).regs,(qI m i).view,0⟩,0):=by
   intro late
   rw [hloc late (by rw [ht]; simp) (by rw [ht]; simp) (by rw [ht]; simp) (by rw [ht]; rfl) (by rw [hnx]; omega),hnx,ht,←hst]
   rfl
  refine ⟨_,hm,.inl ⟨by rw [ht]; simp,?_⟩⟩
  refine h.walk hC hN hi (hm 0) (.out 3 ?_ hs ?_ ?_ (.inr ⟨hx,.inr (.inr rfl)⟩) hno)
  ·rw [vE m i _ hi]
  ·rw [vE m i _ hi]
   show (qI m i).at_+1=_
   omega
  ·rw [vE m i _ hi]
   exact hr
 ·
  right
  have ht:qN m i=⟨10,0,0,0,frm p i (thd s i).at_.toNat+0⟩:=by rw [hstep 3 (by omega) rfl]; exact hlk.2.2.2
  have hm :∀late,yV m ⟨i,late⟩=(dI m i ⟨frm p i (thd s i).at_.toNat+0,(qI m i).regs,(qI m i).view,0⟩,0):=by
   intro late
   rw [hloc late (by rw [ht]; simp) (by rw [ht]; simp) (by rw [ht]; simp) (by rw [ht]; rfl) (by rw [ht]; show frm p i (thd s i).at_.toNat+0<_; omega),ht,←hst]
   rfl
  refine ⟨_,hm,.inl ⟨by rw [ht]; simp,?_⟩⟩
  refine h.walk hC hN hi (hm 0) (.out 0 ?_ hs ?_ ?_ (.inl rfl) hno)
  ·rw [vE m i _ hi]
  ·rw [vE m i _ hi]
   rfl
  ·rw [vE m i _ hi]
   exact hr
theorem Inv.inner {p:wT} {m:qO} {s:qS} {own:Nat→Option Nat} {i:Nat} (h:Inv p m s) (hC :∀i,i<m.cores.length→tU p m s own i) (hN :∀n,n<p.caps.length→qFk p m s own n) (hi:i<m.cores.length)
  {j n N:Nat} {a e:So} {fl:Bool} (hj:j<(body p i).length) (hx:eU (plc p i j)) (hn:(plc p i j).n=n) (hc:lW (qI m i) (frm p i j) a) (hst:a.settled (wE (plc p i j)).toNat=false) (hk1:1≤a.k)
  (hNk:N+a.k≤(wE (plc p i j)).toNat) (hs:xE (frm p i j) (bs p.caps n) (vA (frm p i j) (bs p.caps n) (cp p.caps n) (plc p i j)) N a=some (e,fl)) (hd:a.dat.length=cp p.caps n)
  (hf:fl=true→(thd s i).st=2) (hg:fl=false→(thd s i).st=0∧(thd s i).at_=(if e.k=0 then (j:Int) else j+1)∧e.low=(thd s i).regs)
  (hh:a.hold=true→own n=some i∧qB4 m.mem.cells (bs p.caps n) a∧hX m.mem.cells (bs p.caps n) (cp p.caps n) (qI m i).view∧xR e (chn s n))
  (ho :∀n',own n'=some i→n'=n∧a.hold=true) :
  (∀late,yV m ⟨i,late⟩=(m,3))∨∃m',(∀late,yV m ⟨i,late⟩=(m',0))∧(qN m i).op≠8∧Inv p m' s∧(1≤N):=by
 have F:=h.fix hi
 obtain ⟨n',hn',hnl,hem,hlen⟩:=F.chan h.lie hj hx
 obtain rfl:n'=n:=by omega
 obtain ⟨c1,c2,c3,c4,c5⟩:=xH h.lie hnl
 have hl2:(vA (frm p i j) (bs p.caps n') (cp p.caps n') (plc p i j)).length=(wE (plc p i j)).toNat:=by omega
 rw [←hl2] at hst
 obtain ⟨hk,M,rfl,hcase⟩:=aN hs hst
 have hko:(a.k:Int)<wE (plc p i j):=by omega
 have hstep:=(F.step h.lie hj (k:=a.k) hko hc.at_).1
 rw [hem] at hstep
 rw [←hstep] at hcase
 have hlt:=F.frm_lt h.lie hj
 have hf0:=qNr p i j
 have hj1:j+1<(body p i).length:=F.last hj (by unfold eU at hx; omega) (by unfold eU at hx; omega)
 have hlt2:=F.frm_lt2 h.lie hj1
 rw [sX hj] at hlt2
 rcases hcase with ⟨a',h1,h2,h3⟩ | ⟨a',h1,h2,h3⟩
 ·
  have hak:a'.k≤(wE (plc p i j)).toNat:=by
   cases hs':a'.settled (vA (frm p i j) (bs p.caps n') (cp p.caps n') (plc p i j)).length
   ·have:=(aN h3 hs').1
    omega
   ·simp only [So.settled,qZ8,qZj,decide_eq_true_eq] at hs'
    omega
  have hdl:=qQl h1
  rcases qXx h.mok hi hc (fun e0=>by obtain ⟨_,y1,y2,_⟩:=hh e0; exact ⟨y1,by rw [hd]; exact y2⟩) (by omega) h1 (by omega) hf0 with hfu | ⟨m',hm,A⟩
  ·exact .inl hfu
  right
  refine ⟨m',hm,(qT0 h1).1,?_,by omega⟩
  have hM':MOk m':=by
   have:=nA ⟨i,0⟩ ((jS m).2 h.mok)
   rw [hm] at this
   exact (jS _).1 this
  have A7:=A.held
  have A8:=A.free
  have A9:=A.out
  rw [hd] at A7 A8 A9
  have hown :∃own':Nat→Option Nat,own'=fun q=>if q=n'∧a.hold=true then (if a'.hold=true then some i else none) else own q:=⟨_,rfl⟩
  obtain ⟨own',hown⟩:=hown
  have hone :∀q,own' q=some i→q=n'∧a'.hold=true:=by
   intro q e0
   rw [hown] at e0
   simp only at e0
   split at e0
   ·rename_i hq
    split at e0
    ·rename_i ht
     exact ⟨hq.1,ht⟩
    ·exact absurd e0 (by simp)
   ·rename_i hq
    exact absurd (ho q e0) hq
  have hci:tU p m' s own' i:=by
   cases hs':a'.settled (vA (frm p i j) (bs p.caps n') (cp p.caps n') (plc p i j)).length
   ·rw [hl2] at hs'
    refine .inner j n' _ a' e fl hj hx hn A.core hs' ?_ ?_ (qA2 h3) (by rw [hdl,hd]) hf hg ?_ hone
    ·rcases h2 with h2 | ⟨h2,h5⟩
     ·omega
     ·exfalso
      simp [So.settled,h2,h5] at hs'
    ·omega
    ·intro hold'
     obtain ⟨z1,z2,z3,z4⟩:=A7 hold'
     refine ⟨?_,z2,z3,(hh z1).2.2.2⟩
     rw [hown]
     simp [z1,hold']
   ·rw [jP hs'] at h3
    simp only [Option.some.injEq,Prod.mk.injEq] at h3
    obtain ⟨rfl,rfl⟩:=h3
    obtain ⟨y1,y2,y3⟩:=hg rfl
    simp only [So.settled,qZ8,qZj,decide_eq_true_eq,Bool.not_eq_true'] at hs'
    refine .out 0 A.core.st y1 ?_ ?_ (.inl rfl) (fun q e0=>by have:=(hone q e0).2; rw [hs'.1] at this; exact absurd this (by decide))
    ·rw [A.core.at_,y2]
     rcases hs'.2 with h0 | h0
     ·rw [if_pos h0,h0]
      simp
     ·rw [hl2] at h0
      have:=F.size hj
      rw [if_neg (by omega),show ((j:Int)+1).toNat=j+1 by omega,sX hj]
      omega
    ·rw [A.core.regs,←y3]
     rw [List.take_append_of_le_length (by rw [A.core.low]; omega),qZh (by rw [A.core.low]; omega)]
  by_cases hhold:a.hold=true
  ·obtain ⟨y1,y2,y3,y4⟩:=hh hhold
   refine h.build hC hN hnl hM' A.codes A.len A.other h.src (fun _ _=>rfl) (by rw [A.tr,h.tr]) hci (fun q hq n2=>?_) (fun c hc'=>A9 c (by omega)) (fun q hq e0=>by rw [y1] at e0; simp only [Option.some.injEq] at e0; exact absurd e0.symm hq) (fun _ _=>rfl) (fun q hq=>by rw [hown]; simp [hq]) ?_
   ·rw [hown]
    simp only
    split
    ·rename_i hq2
     rw [hq2.1,y1]
     split<;>simp [Ne.symm hq]
    ·exact Iff.rfl
   ·cases hh':a'.hold with
    | true =>
     have ow:own' n'=some i:=by rw [hown]; simp [hhold,hh']
     refine ⟨fun e0=>by rw [ow] at e0; exact absurd e0 (by simp),fun q e0=>?_⟩
     rw [ow] at e0
     simp only [Option.some.injEq] at e0
     subst e0
     refine ⟨by rw [A.len]; exact hi,?_⟩
     have:=((hN n' hnl).held i y1).2
     unfold jG at this⊢
     rw [(A7 hh').2.2.2]
     exact this
    | false =>
     have ow:own' n'=none:=by rw [hown]; simp [hhold,hh']
     obtain ⟨x1,x2,x3⟩:=A8 hhold hh'
     obtain ⟨k1,k2,k3,k4,k5⟩:=qGm h3 hh'
     refine ⟨fun _=>⟨x1,x3,a',by rw [hdl,hd],x2,y4.same k4.symm k1.symm k2.symm k3.symm⟩,fun q e0=>by rw [ow] at e0; exact absurd e0 (by simp)⟩
  ·have hhf:a.hold=false:=by simpa using hhold
   have hmem:=A.none hhf
   have howe:own'=own:=by rw [hown]; funext q; simp [hhf]
   rw [howe] at hci
   refine ⟨hM',by rw [A.codes,h.codes],h.prog,h.lie,h.src,by rw [A.tr,h.tr],own,fun q hq=>?_,fun q hq=>?_⟩
   ·by_cases e0:q=i
    ·rw [e0]; exact hci
    ·exact (hC q (by rw [A.len] at hq; exact hq)).frame (A.other q e0) rfl (fun _=>Iff.rfl) (fun _ _=>⟨fun _ _ _=>by rw [hmem],rfl⟩)
   ·refine (hN q hq).frame rfl (fun _ _ _ _=>by rw [hmem]) (fun q' e0=>?_) (fun _=>rfl) A.len
    rw [hmem]
    exact ((hN q hq).held q' e0).2
 ·
  obtain ⟨h13,rfl⟩:=qMu h1
  simp only [Prod.mk.injEq] at h3
  obtain ⟨rfl,rfl⟩:=h3
  right
  have hm:=fun late=>@qKx m i late hi hc.st h13
  refine ⟨_,hm,by omega,?_,by omega⟩
  refine h.walk hC hN hi (hm 0) (.over ?_ ?_ (fun q e0=>by have:=(ho q e0).2; rw [h2] at this; exact absurd this (by decide)))
  ·rw [vE m i _ hi]
   exact (by decide:(2:Int)≠0)
  ·rw [vE m i _ hi]
   exact hf rfl
theorem Inv.step {p:wT} {m:qO} {s:qS} {i:Nat} (h:Inv p m s) (hi:i<m.cores.length) :
  (∀late,yV m ⟨i,late⟩=(m,3))∨∃m',(∀late,yV m ⟨i,late⟩=(m',0))∧
   ((kH p (qN m i) (qI m' i).regs i (qI m i).at_=false∧Inv p m' s)∨
    (kH p (qN m i) (qI m' i).regs i (qI m i).at_=true∧(wQ p s i=0∨wQ p s i=4)∧Inv p m' (qQ p s i).1)):=by
 obtain ⟨own,hC,hN⟩:=h.own
 have F:=h.fix hi
 cases hC i hi with
 | over hst hs ho =>
  left
  intro late
  refine cV ?_
  rw [cK hi,if_pos (.inl hst)]
 | out k hst hs ha hr hk hno =>
  by_cases hx:eU (plc p i (thd s i).at_.toNat)
  ·have hsz:=eA hx
   have hk':k=0∨k=1∧(qI m i).regs.getD 7 0=1∨k=2∧(qI m i).regs.getD 6 0≠0∨k=3:=by
    rcases hk with hk | ⟨_,hk⟩
    ·exact .inl hk
    ·exact .inr hk
   rcases h.spin hC hN hi hst hs ha hr hno hx hk' with hfu | ⟨m',hm,hh⟩
   ·exact .inl hfu
   right
   refine ⟨m',hm,?_⟩
   rw [F.commits h.lie F.at1 (k:=k) (by omega) ha]
   have h1:decide (wE (plc p i (thd s i).at_.toNat)=1)=false:=by simp; omega
   rw [h1,Bool.or_false]
   exact hh
  ·have hk0:k=0:=by
    rcases hk with hk | ⟨hk,_⟩
    ·exact hk
    ·exact absurd hk hx
   subst hk0
   have hone:=F.one h.lie F.at1 hx
   rcases h.single hC hN hi hst hs (by rw [ha]; simp) hr hno hx with hfu | ⟨m',hm,h0,hI⟩
   ·exact .inl hfu
   right
   refine ⟨m',hm,.inr ⟨?_,.inl h0,?_⟩⟩
   ·rw [F.commits h.lie F.at1 (k:=0) (by rw [hone.2]; decide) ha,hone.2]
    simp
   ·unfold qQ
    rw [if_pos h0]
    exact hI
 | inner j n N a e fl hj hx hn hc hst hk1 hNk hs hd hf hg hh ho =>
  rcases h.inner hC hN hi hj hx hn hc hst hk1 hNk hs hd hf hg hh ho with hfu | ⟨m',hm,h8,hI,_⟩
  ·exact .inl hfu
  right
  refine ⟨m',hm,.inl ⟨?_,hI⟩⟩
  have hsz:=eA hx
  rw [F.commits h.lie hj (k:=a.k) (by omega) hc.at_]
  have h1:decide (wE (plc p i j)=1)=false:=by simp; omega
  have h2:decide ((qN m i).op=8)=false:=by simpa using h8
  rw [h1,h2]
  rfl
theorem qAj {m:qO} {x:qCj} (h :¬(0≤x.who∧x.who.toNat<m.cores.length)):yV m x=(m,2):=by
 have hc:eH m x.who=2:=by
  unfold eH
  have hw:qT x.who 0 ((m.cores.length:Int)-1)=false:=by
   cases hh:qT x.who 0 ((m.cores.length:Int)-1)
   ·rfl
   ·rw [qK] at hh
    exact absurd ⟨hh.1,by omega⟩ h
  rw [hw]
  rfl
 unfold yV
 rw [hc,if_neg (by decide)]
theorem Inv.late {p:wT} {m:qO} {s:qS} (h:Inv p m s) (x:qCj):yV m x=yV m ⟨x.who,0⟩:=by
 by_cases hw:0≤x.who∧x.who.toNat<m.cores.length
 ·obtain ⟨who,late⟩:=x
  simp only at hw⊢
  obtain ⟨i,rfl⟩:=wB8 hw.1
  rcases h.step (i:=i) (by simpa using hw.2) with h1 | ⟨m',h1,_⟩<;>rw [h1 late,h1 0]
 ·rw [qAj hw,qAj (x:=⟨x.who,0⟩) hw]
theorem Inv.pick {p:wT} {m:qO} {s:qS} (h:Inv p m s) (x:qCj):(did p m x=false∧Inv p (yV m x).1 s)∨(did p m x=true∧(wQ p s x.who=0∨wQ p s x.who=4)∧Inv p (yV m x).1 (qQ p s x.who).1):=by
 by_cases hw:0≤x.who∧x.who.toNat<m.cores.length
 ·obtain ⟨who,late⟩:=x
  simp only at hw⊢
  obtain ⟨i,rfl⟩:=wB8 hw.1
  rcases h.step (i:=i) (by simpa using hw.2) with h1 | ⟨m',h1,hh⟩
  ·left
   have hh:=h1 late
   refine ⟨?_,by rw [hh]; exact h⟩
   unfold did
   rw [hh]
   rfl
  ·have hd:did p m ⟨(i:Int),late⟩=kH p (qN m i) (qI m' i).regs i (qI m i).at_:=by
    unfold did
    rw [h1 late]
    simp
   rw [hd,h1 late]
   exact hh
 ·left
  have hh:=qAj hw
  refine ⟨?_,by rw [hh]; exact h⟩
  unfold did
  rw [hh]
  rfl
def rU (p:wT):qS→List Int→qS
 | s,[]=>s
 | s,x::l=>rU p (qQ p s x).1 l
def eQ (p:wT):qS→List Int→List Int
 | _,[]=>[]
 | s,x::l=>(qQ p s x).2::eQ p (qQ p s x).1 l
theorem qIr (p:wT) :∀(l:List Int) (s:qS) (c:List Int),l.foldl (zC p) (s,c)=(rU p s l,c++eQ p s l)
 | [],s,c=>by simp [rU,eQ]
 | x::l,s,c=>by
  simp only [List.foldl_cons,zC,rU,eQ]
  rw [qIr p l]
  simp
theorem qQh {p:wT} {s:qS} {who:Int}:(qQ p s who).2=wQ p s who:=by
 unfold qQ
 split
 ·rename_i h; exact h.symm
 ·rfl
theorem Inv.run {p:wT} :∀(l:List qCj) {m:qO} {s:qS},Inv p m s→Inv p (qW5 m l) (rU p s (tX p m l))∧∀c∈eQ p s (tX p m l),c=0∨c=4
 | [],m,s,h=>⟨h,by simp [tX,eQ]⟩
 | x::l,m,s,h=>by
  rcases h.pick x with ⟨h1,h2⟩ | ⟨h1,h2,h3⟩
  ·simp only [qW5,tX,h1]
   exact Inv.run l h2
  ·obtain ⟨g1,g2⟩:=Inv.run l h3
   simp only [qW5,tX,h1,if_true,List.cons_append,List.nil_append,rU,eQ]
   refine ⟨g1,fun c hc=>?_⟩
   rcases List.mem_cons.1 hc with rfl | hc
   ·rw [qQh]; exact h2
   ·exact g2 c hc
theorem qS3 {cs:List (List wY)} {b:Nat} {a:So} {c:jN} (hd:qB4 cs b a) (h:xR a c):qLz cs b c.cap a.fst c.list.length=c.list:=by
 apply List.ext_getElem (qJn _ _ _ _ _)
 intro j h1 h2
 have h3:=h.at_ j h2
 have hm:((a.fst+(j:Int))%c.cap).toNat<a.dat.length:=by
  have:=h.cap
  have:=h.cap1
  have:=Int.emod_nonneg (a.fst+(j:Int)) (b:=c.cap) (by omega)
  have:=Int.emod_lt_of_pos (a.fst+(j:Int)) (b:=c.cap) (by omega)
  omega
 simp only [qLz,List.getElem_map,List.getElem_range]
 rw [hd.dat _ hm,←h3]
 simp [qZa,h2]
theorem qO3 {cs:List (List wY)} {b:Nat} {a:So} {c:jN} (hd:qB4 cs b a) (h:xR a c):qO4 cs b c.cap=(c,true):=by
 unfold qO4
 have e1:qT a.fst 0 (c.cap-1)=true:=by rw [qK]; have:=h.fst0; have:=h.fst1; omega
 have e2:qT a.cnt 0 c.cap=true:=by rw [qK]; have:=h.cnt; have:=h.len; omega
 have e3:qT a.cls 0 1=true:=by rw [h.cls]; cases c.closed<;>rfl
 rw [hd.fst,hd.cnt,hd.cls,e1,e2,e3,h.cnt,wAz,qS3 hd h]
 have e4:decide (a.cls=1)=c.closed:=by rw [h.cls]; cases c.closed<;>rfl
 rw [e4]
 rfl
theorem Inv.chan {p:wT} {m:qO} {s:qS} (h:Inv p m s) {n:Nat} (hn:n<p.caps.length):qCt m.mem.cells p.caps n=true∨(qCt m.mem.cells p.caps n=false∧qAu m.mem.cells p.caps n=(chn s n,true)):=by
 obtain ⟨own,hC,hN⟩:=h.own
 obtain ⟨c1,c2,c3,c4,c5⟩:=xH h.lie hn
 have hmo:=(sK _).2 h.mok.mem
 have hb:base p.caps n=bs p.caps n:=c1
 unfold qCt
 rw [hb,hmo,wAz]
 have d:decide ((0:Int)≤(bs p.caps n:Int))=true:=by simp
 rw [d]
 cases how:own n with
 | some i =>
  left
  rw [((hN n hn).held i how).2]
  rfl
 | none =>
  right
  obtain ⟨f1,f2,a,f3,f4,f5⟩:=(hN n hn).free how
  refine ⟨by rw [f1]; rfl,?_⟩
  unfold qAu
  rw [hb,hmo,wAz]
  have d2:decide ((bs p.caps n:Int)<0)=false:=by simp
  rw [d2]
  have hcap:=(qJj h hn).2.2
  simp only [Bool.not_false,Bool.and_self,if_true,wAz]
  rw [c2,←hcap]
  exact qO3 f4 f5
theorem qG2 {p:wT} {m:qO} {s:qS} {i:Nat} (h:Inv p m s) (hi:i<m.cores.length):nS p m s i=true:=by
 obtain ⟨own,hC,hN⟩:=h.own
 have F:=h.fix hi
 have hK:=h.mok.core i hi
 have hw1:qT (i:Int) 0 ((m.cores.length:Int)-1)=true:=by rw [qK]; omega
 have hw2:decide ((i:Int)<(s.ths.length:Int))=true:=by have:=F.ht; simp; omega
 have hpl:fQ p i (qI m i).at_=dK (body p i) 0 0 (qI m i).at_:=by
  unfold fQ
  have hw:qT (i:Int) 0 ((p.bods.length:Int)-1)=true:=by have:=F.hb; rw [qK]; omega
  rw [h.prog,hw]
  rfl
 have hres:nS p m s i=(if (fQ p i (qI m i).at_).1<0∨(qI m i).regs.length<4∨(thd s i).regs.length<4 then false
  else if (qI m i).st≠0 then decide ((thd s i).st=(qI m i).st)
  else if (fQ p i (qI m i).at_).2 then decide ((thd s i).st=0)&&decide ((thd s i).at_=(fQ p i (qI m i).at_).1)&&decide ((qI m i).regs.take 4=(thd s i).regs.take 4)
  else true):=by
  simp only [nS,hw1,hw2,Bool.and_self,if_true,wAz]
  rfl
 have hat0:=hK.at0
 have hat1:=hK.at1
 rw [F.code] at hat1
 have hcomp:=qWp F.bok h.lie hat0 hat1
 have hp0 :¬((fQ p i (qI m i).at_).1<0∨(qI m i).regs.length<4∨(thd s i).regs.length<4):=by
  rw [hpl]
  have:=hcomp.1
  have:=hK.regs
  have:=F.regs
  omega
 rw [hres,if_neg hp0]
 cases hC i hi with
 | over hst hs ho=>rw [if_pos hst,hs]; simp
 | out k hst hs ha hr hk hno =>
  rw [if_neg (by simp [hst])]
  have hkz:(k:Int)<wE (plc p i (thd s i).at_.toNat):=by
   rcases hk with rfl | ⟨hx,hk⟩
   ·have:=F.size F.at1; omega
   ·have:=eA hx; omega
  have:=(F.step h.lie F.at1 hkz ha).2
  rw [hpl,this]
  by_cases hk0:k=0
  ·have hrl:(thd s i).regs.take 4=(thd s i).regs:=qZh (by rw [F.regs]; exact qZ7 _)
   have:=F.at0
   simp only [hk0,decide_true,if_true]
   rw [hs,hr,hrl,Int.toNat_of_nonneg F.at0]
   simp
  ·simp [hk0]
 | inner j n N a e fl hj hx hn hc hst hak hNk hs hd hf hg hh ho =>
  rw [if_neg (by simp [hc.st])]
  obtain ⟨n',hn',hnl,hem,hlen⟩:=F.chan h.lie hj hx
  have hkl:(a.k:Int)<wE (plc p i j):=by
   obtain rfl:n'=n:=by omega
   have hl2:(vA (frm p i j) (bs p.caps n') (cp p.caps n') (plc p i j)).length=(wE (plc p i j)).toNat:=by omega
   rw [←hl2] at hst
   have:=(aN hs hst).1
   omega
  have:=(F.step h.lie hj hkl hc.at_).2
  rw [hpl,this]
  simp [show¬a.k=0 by omega]
theorem Inv.same {p:wT} {m:qO} {s:qS} (h:Inv p m s):same p m s=true:=by
 have hs:=(yW p s).1 h.src
 have hl:m.codes.length=p.bods.length:=by rw [h.codes,wB9]
 have hc:=h.mok.cores
 unfold Go.Sep.same
 rw [h.prog,(jS m).2 h.mok,h.src,decide_eq_true (show m.cores.length=s.ths.length by omega),decide_eq_true h.tr]
 have h1:(List.range m.cores.length).all (fun i=>nS p m s i)=true:=by
  rw [oH]
  exact fun i hi=>qG2 h hi
 have h2:(List.range p.caps.length).all (fun n=>qEy p m s n)=true:=by
  rw [oH]
  intro n hn
  obtain ⟨g1,g2,g3⟩:=qJj h hn
  unfold qEy
  have hw:qT (n:Int) 0 ((p.caps.length:Int)-1)=true:=by rw [qK]; omega
  rw [hw,decide_eq_true (show (n:Int)<s.chs.length by omega)]
  rcases h.chan hn with hk | ⟨hk,hc⟩
  ·rw [hk]; rfl
  ·rw [hk,hc,wAz]
   show (false||(true&&decide ((chn s n).cap=(chn s n).cap)&&decide ((chn s n).list=(chn s n).list)&&decide ((chn s n).closed=(chn s n).closed)))=true
   simp
 rw [h1,h2]
 rfl
end Go.Sep
