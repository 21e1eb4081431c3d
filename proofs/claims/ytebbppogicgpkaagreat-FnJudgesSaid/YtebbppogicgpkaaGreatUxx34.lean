/- Contracts of functions. -/
import Derived.Test.YtebbppogicgpkaaGreatUxx33
open Bool renaming and_eq_true → qXo, or_eq_true → qXz
open Int renaming eq_ofNat_of_zero_le → qZl, toNat_natCast → qZh
open List renaming getD_eq_getElem?_getD → qXq, getElem?_append_left → qY3, getElem?_append_right → qXe, length_append → qY4, length_map → qZf, length_replicate → qZe, length_set → qZ5, range → qZg, replicate → qXi, take_length → qZq, take_of_length_le → qXx, take_succ_cons → qZn
open Nat renaming le_refl → qXn
namespace Go.Sep
set_option maxHeartbeats 16000000
open Go.Proofs
set_option linter.unusedSimpArgs false
set_option linter.unusedVariables false
set_option maxRecDepth 100000
structure So where
 k:Nat
 low:List Int
 t4:Int
 t5:Int
 t6:Int
 t7:Int
 fst:Int
 cnt:Int
 cls:Int
 dat:List Int
 hold:Bool
def So.get (s:So) (r:Int):Int:=if r<4 then s.low.getD r.toNat 0 else if r=4 then s.t4 else if r=5 then s.t5 else if r=6 then s.t6 else s.t7
def So.put (s:So) (r v:Int):So:=if r<4 then {s with low:=s.low.set r.toNat v} else if r=4 then {s with t4:=v} else if r=5 then {s with t5:=v} else if r=6 then {s with t6:=v} else {s with t7:=v}
def So.to (s:So) (k:Nat):So:={s with k:=k}
inductive vX where
 | go (s:So)
 | stop (s:So)
 | bad
def xC (b:Int) (t:yK) (s:So):vX :=
 if t.a=-1 then
  if t.n=b+1 then .go ((s.put t.r s.fst).to (s.k+1)) else if t.n=b+2 then .go ((s.put t.r s.cnt).to (s.k+1)) else if t.n=b+3 then .go ((s.put t.r s.cls).to (s.k+1)) else .bad
 else if t.n=b+4∧0≤t.a∧0≤s.get t.a∧(s.get t.a).toNat<s.dat.length then .go ((s.put t.r (s.dat.getD (s.get t.a).toNat 0)).to (s.k+1)) else .bad
def xB (b:Int) (t:yK) (s:So):vX :=
 if t.a=-1 then
  if t.n=b+1 then .go ({s with fst:=s.get t.b}.to (s.k+1)) else if t.n=b+2 then .go ({s with cnt:=s.get t.b}.to (s.k+1)) else if t.n=b+3 then .go ({s with cls:=s.get t.b}.to (s.k+1)) else .bad
 else if t.n=b+4∧0≤t.a∧0≤s.get t.a∧(s.get t.a).toNat<s.dat.length then .go ({s with dat:=s.dat.set (s.get t.a).toNat (s.get t.b)}.to (s.k+1)) else .bad
def gW (b:Int) (t:yK) (s:So):vX:=if t.a=-1∧t.n=b∧s.get t.b=0 then .go ({s with hold:=false}.to (s.k+1)) else .bad
def bU (b:Int) (t:yK) (s:So):vX:=if t.op=5 then xC b t s else if t.op=6 then xB b t s else if t.op=7 then gW b t s else .bad
def uV (f b:Int) (t:yK) (s:So):vX :=
 if t.op=1 then .go ((s.put t.r t.n).to (s.k+1))
 else if t.op=2 then .go ((s.put t.r (IntKind.i64.wrap (s.get t.a+s.get t.b))).to (s.k+1))
 else if t.op=3 then .go ((s.put t.r (IntKind.i64.wrap (s.get t.a-s.get t.b))).to (s.k+1))
 else if t.op=4 then .go ((s.put t.r (uM (decide (s.get t.a<s.get t.b)))).to (s.k+1))
 else if t.op=10 then (if f≤t.n then .go (s.to (t.n-f).toNat) else .bad)
 else if t.op=11 then (if f≤t.n then .go (s.to (if s.get t.a=0 then (t.n-f).toNat else s.k+1)) else .bad)
 else if t.op=13 then .stop s
 else if s.hold=false then .bad
 else bU b t s
theorem pU {b:Int} {t:yK} {s s':So}:bU b t s≠.stop s':=by
 unfold bU xC xB gW
 intro h
 repeat' split at h
 all_goals cases h
def So.settled (sz:Nat) (s:So):Bool:=!s.hold&&(decide (s.k=0)||decide (s.k=sz))
def fC (f b:Int) (L:List yK):Nat→So→Option (So×Bool)
 | 0,s=>if s.settled L.length then some (s,false) else none
 | n+1,s =>
  if s.settled L.length then some (s,false)
  else if s.k<L.length then
   match uV f b (L.getD s.k default) s with
   | .go s'=>if s.k<s'.k∨(s'.k=0∧s'.hold=false) then fC f b L n s' else none
   | .stop s'=>if s'.hold=false then some (s',true) else none
   | .bad=>none
  else none
theorem uU {f b:Int} {L:List yK} {n:Nat} {s:So} (h:s.settled L.length=true):fC f b L n s=some (s,false):=by
 cases n<;>simp [fC,h]
theorem qLu {f b:Int} {L:List yK} {n:Nat} {s s':So} {r:Option (So×Bool)} (h1:s.settled L.length=false) (h2:s.k<L.length) (h3:uV f b (L.getD s.k default) s=.go s') (h4:s.k<s'.k∨(s'.k=0∧s'.hold=false)) (h5:fC f b L n s'=r):fC f b L (n+1) s=r:=by
 unfold fC
 rw [h1,if_neg (by decide),if_pos h2,h3]
 simp only
 rw [if_pos h4]
 exact h5
theorem qDq {f b:Int} {L:List yK} {n:Nat} {s s':So} (h1:s.settled L.length=false) (h2:s.k<L.length) (h3:uV f b (L.getD s.k default) s=.stop s') (h4:s'.hold=false):fC f b L (n+1) s=some (s',true):=by
 unfold fC
 rw [h1,if_neg (by decide),if_pos h2,h3]
 simp only
 rw [if_pos h4]
theorem iJ {f b:Int} {L:List yK} {n:Nat} {s:So} {r:So×Bool} (h:fC f b L n s=some r) (hs:s.settled L.length=false) :
  s.k<L.length∧∃m,n=m+1∧((∃s',uV f b (L.getD s.k default) s=.go s'∧(s.k<s'.k∨(s'.k=0∧s'.hold=false))∧fC f b L m s'=some r)∨(∃s',uV f b (L.getD s.k default) s=.stop s'∧s'.hold=false∧r=(s',true))):=by
 cases n with
 | zero=>simp [fC,hs] at h
 | succ m =>
  unfold fC at h
  rw [hs,if_neg (by decide)] at h
  split at h
  ·rename_i hk
   refine ⟨hk,m,rfl,?_⟩
   cases h1:uV f b (L.getD s.k default) s with
   | go s' =>
    rw [h1] at h
    simp only at h
    split at h
    ·rename_i h4
     exact .inl ⟨s',rfl,h4,h⟩
    ·exact absurd h (by simp)
   | stop s' =>
    rw [h1] at h
    simp only at h
    split at h
    ·rename_i h4
     exact .inr ⟨s',rfl,h4,by simpa using h.symm⟩
    ·exact absurd h (by simp)
   | bad =>
    rw [h1] at h
    exact absurd h (by simp)
  ·exact absurd h (by simp)
structure fT (s:So) (c:bS):Prop where
 cap:(s.dat.length:Int)=c.cap
 cap1:1≤c.cap
 cap4:c.cap≤4
 len:(c.list.length:Int)≤c.cap
 fst0:0≤s.fst
 fst1:s.fst<c.cap
 cnt:s.cnt=c.list.length
 cls:s.cls=uM c.closed
 at_ :∀j:Nat,j<c.list.length→c.list.getD j 0=s.dat.getD ((s.fst+j)%c.cap).toNat 0
def bD (f b c:Int) (x:Ins):List yK:=gE f b++(if x.op=5∨x.op=7 then cK f b c x else if x.op=6∨x.op=8 then cJ f b c x else cA f b)
structure qLj (sz:Nat) (th:vA) (ch:bS) (x:Ins) (s:So) (fl:Bool):Prop where
 flt:fl=true→(wW th ch x).2.2=false
 nxt:fl=false→s.k=sz→s.k≠0∧(wW th ch x).2.2=true∧s.low=(wW th ch x).1.regs
 wt:fl=false→s.k≠sz→s.k=0∧s.low=th.regs∧(x.op=5∨x.op=6)
 ch0:s.k=0→fl=false→fT s ch
 ch1:(s.k≠0∨fl=true)→fT s (wW th ch x).2.1
 wait:(s.k=0∧fl=false)↔(ch.closed=false∧((x.op=5∧(ch.list.length:Int)=ch.cap)∨(x.op=6∧(ch.list.length:Int)=0)))
 free:s.hold=false
theorem fT.same {s s':So} {c:bS} (h:fT s c) (h1:s'.dat=s.dat) (h2:s'.fst=s.fst) (h3:s'.cnt=s.cnt) (h4:s'.cls=s.cls):fT s' c:=by
 obtain ⟨a1,a2,a3,a4,a5,a6,a7,a8,a9⟩:=h
 exact ⟨by rw [h1]; exact a1,a2,a3,a4,by rw [h2]; exact a5,by rw [h2]; exact a6,by rw [h3]; exact a7,by rw [h4]; exact a8,by rw [h1,h2]; exact a9⟩
theorem oP {l:List Int} {i j:Nat} {v:Int} (hi:i<l.length):(l.set i v).getD j 0=if j=i then v else l.getD j 0:=by
 by_cases h:j=i
 ·subst h; simp [qXq,hi]
 ·rw [if_neg h]; simp [qXq,List.getElem?_set,show¬i=j from fun e=>h e.symm]
theorem qEs {c:Int} (h1:1≤c) (h4:c≤4):c=1∨c=2∨c=3∨c=4:=by omega
theorem qVh {c f n j i:Int} (h1:1≤c) (h4:c≤4) (f0:0≤f) (f1:f<c) (n1:n<c) (j0:0≤j) (j1:j<n) (hi:i=if f+n<c then f+n else f+n-c):(f+j)%c≠i:=by
 rcases qEs h1 h4 with rfl | rfl | rfl | rfl<;>split at hi<;>omega
theorem qVj {c f n i:Int} (h1:1≤c) (h4:c≤4) (f0:0≤f) (f1:f<c) (n0:0≤n) (n1:n<c) (hi:i=if f+n<c then f+n else f+n-c):(f+n)%c=i:=by
 rcases qEs h1 h4 with rfl | rfl | rfl | rfl<;>split at hi<;>omega
theorem qSb {c f j:Int} (h1:1≤c) (h4:c≤4) (f0:0≤f) (f1:f<c) (j0:0≤j):(f+(j+1))%c=((if f+1<c then f+1 else 0)+j)%c:=by
 rcases qEs h1 h4 with rfl | rfl | rfl | rfl<;>split<;>omega
theorem qVi {c f j:Int} (h1:1≤c):0≤(f+j)%c∧(f+j)%c<c:=⟨Int.emod_nonneg _ (by omega),Int.emod_lt_of_pos _ (by omega)⟩
theorem fT.send {s s':So} {c:bS} {v:Int} {i:Nat} (h:fT s c) (hl :¬(c.list.length:Int)=c.cap) (hi:(i:Int)=(if s.fst+s.cnt<c.cap then s.fst+s.cnt else s.fst+s.cnt-c.cap))
  (h1:s'.dat=s.dat.set i v) (h2:s'.fst=s.fst) (h3:s'.cnt=s.cnt+1) (h4:s'.cls=s.cls):fT s' {c with list:=c.list++[v]}:=by
 obtain ⟨a1,a2,a3,a4,a5,a6,a7,a8,a9⟩:=h
 have hil:i<s.dat.length:=by split at hi<;>omega
 refine ⟨by rw [h1,qZ5]; exact a1,a2,a3,by simp; omega,by rw [h2]; exact a5,by rw [h2]; exact a6,by rw [h3,a7]; simp,by rw [h4]; exact a8,?_⟩
 intro j hj
 simp only [qY4,List.length_cons,List.length_nil] at hj
 rw [h1,h2,oP hil]
 by_cases hjl:j<c.list.length
 ·have h5:(c.list++[v]).getD j 0=c.list.getD j 0:=by simp [qXq,qY3 hjl]
  rw [h5,a9 j hjl,if_neg]
  intro e
  simp only at e
  have:=qVh a2 a3 a5 a6 (n:=s.cnt) (j:=j) (by omega) (by omega) (by omega) hi
  have:=qVi (f:=s.fst) (j:=j) a2
  omega
 ·have hj':j=c.list.length:=by omega
  have h5:(c.list++[v]).getD j 0=v:=by rw [hj']; simp [qXq]
  rw [h5,if_pos]
  simp only
  have:=qVj a2 a3 a5 a6 (n:=s.cnt) (by omega) (by omega) hi
  rw [hj',←a7,this]
  simp
theorem fT.take {s s':So} {c:bS} (h:fT s c) (hl:0<c.list.length)
  (h1:s'.dat=s.dat) (h2:s'.fst=if s.fst+1<c.cap then s.fst+1 else 0) (h3:s'.cnt=s.cnt-1) (h4:s'.cls=s.cls):fT s' {c with list:=c.list.drop 1}:=by
 obtain ⟨a1,a2,a3,a4,a5,a6,a7,a8,a9⟩:=h
 refine ⟨by rw [h1]; exact a1,a2,a3,by simp; omega,by rw [h2]; split<;>omega,by rw [h2]; simp only; split<;>omega,by rw [h3,a7]; simp; omega,by rw [h4]; exact a8,?_⟩
 intro j hj
 simp only [List.length_drop] at hj
 have h5:(c.list.drop 1).getD j 0=c.list.getD (j+1) 0:=by simp [qXq,Nat.add_comm]
 simp only
 rw [h5,a9 (j+1) (by omega),h1,h2]
 congr 2
 have:=qSb a2 a3 a5 a6 (j:=j) (by omega)
 push_cast
 exact this
theorem fT.first {s:So} {c:bS} (h:fT s c) (hl:0<c.list.length):c.list.getD 0 0=s.dat.getD s.fst.toNat 0:=by
 have h0:=h.at_ 0 hl
 have h1:=h.fst0
 have h2:=h.fst1
 rw [h0]
 congr 1
 have:(s.fst+((0:Nat):Int))%c.cap=s.fst:=by rw [Int.natCast_zero,Int.add_zero]; exact Int.emod_eq_of_lt h1 h2
 rw [this]
structure Got (s:So) (th:vA) (ch:bS):Prop where
 k:s.k=2
 low:s.low=th.regs
 len:th.regs.length=4
 t6:s.t6=0
 hold:s.hold=true
 rep:fT s ch
 ok:vK ch=true
structure Op4 (x:Ins):Prop where
 r0:0≤x.r
 r1:x.r<4
 a0:0≤x.a
 a1:x.a<4
 b0:0≤x.b
 b1:x.b<4
def vX.nx:vX→So→So
 | .go s',_=>s'
 | _,s=>s
def vX.good:vX→So→Bool
 | .go s',s=>decide (s.k<s'.k)||(decide (s'.k=0)&&!s'.hold)
 | _,_=>false
def vX.ends:vX→Bool
 | .stop _=>true
 | _=>false
theorem zY {f b:Int} {L:List yK} {n:Nat} {s:So} (h1:s.settled L.length=false) (h2:s.k<L.length) (h3:(uV f b (L.getD s.k default) s).good s=true):fC f b L (n+1) s=fC f b L n ((uV f b (L.getD s.k default) s).nx s):=by
 cases h:uV f b (L.getD s.k default) s with
 | go s' =>
  rw [h] at h3
  simp only [vX.good,qXz,qXo,decide_eq_true_eq,Bool.not_eq_true'] at h3
  exact qLu h1 h2 h h3 rfl
 | stop s'=>rw [h] at h3; exact absurd h3 (by simp [vX.good])
 | bad=>rw [h] at h3; exact absurd h3 (by simp [vX.good])
theorem zX {f b:Int} {L:List yK} {n:Nat} {s:So} (h1:s.settled L.length=false) (h2:s.k<L.length) (h3:(uV f b (L.getD s.k default) s).ends=true) (h4:s.hold=false):fC f b L (n+1) s=some (s,true):=by
 cases h:uV f b (L.getD s.k default) s with
 | go s'=>rw [h] at h3; exact absurd h3 (by simp [vX.ends])
 | stop s' =>
  have hs:s'=s:=by
   unfold uV at h
   repeat' split at h
   all_goals (first | exact absurd h pU | (cases h; done) | (cases h; rfl))
  rw [hs] at h
  exact qDq h1 h2 h h4
 | bad=>rw [h] at h3; exact absurd h3 (by simp [vX.ends])
theorem fle (f:Int) {n:Int} (h:0≤n):(f≤f+n)=True:=eq_true (by omega)
theorem sF (f n:Int):f+n-f=n:=by omega
theorem qPd {f b:Int} {x:Ins} {s:So} {th:vA} {ch:bS} (hx:x.op=9) (ho:Op4 x) (h:Got s th ch) :∃s' fl,fC f b (bD f b ch.cap x) 40 s=some (s',fl)∧qLj 13 th ch x s' fl:=by
 obtain ⟨h1,h2,h3,h4,h5,h6,h7⟩:=h
 obtain ⟨r0,r1,a0,a1,b0,b1⟩:=ho
 obtain ⟨k,low,t4,t5,t6,t7,fst,cnt,cls,dat,hold⟩:=s
 simp only at h1 h2 h4 h5
 subst h1 h2 h4 h5
 obtain ⟨c,lst,cl⟩:=ch
 have H:=h6
 obtain ⟨e1,e2,e3,e4,e5,e6,e7,e8,e9⟩:=h6
 simp only at e1 e2 e3 e4 e5 e6 e7 e8 e9
 have hL:bD f b c x=[⟨1,7,0,0,1⟩,⟨8,6,0,7,b⟩,⟨11,0,6,0,f+4⟩,⟨10,0,0,0,f⟩,⟨5,4,-1,0,b+3⟩,⟨11,0,4,0,f+9⟩,⟨1,7,0,0,0⟩,⟨7,0,-1,7,b⟩,⟨13,0,0,0,0⟩,⟨1,7,0,0,1⟩,⟨6,0,-1,7,b+3⟩,⟨1,7,0,0,0⟩,⟨7,0,-1,7,b⟩]:=by simp [bD,gE,cK,cJ,cA,eT,eO,uM,hx]
 generalize bD f b c x=L at hL⊢
 have hlen:L.length=13:=by rw [hL]; rfl
 have g2:L.getD 2 default=⟨11,0,6,0,f+4⟩:=by rw [hL]; rfl
 have g3:L.getD 3 default=⟨10,0,0,0,f⟩:=by rw [hL]; rfl
 have g4:L.getD 4 default=⟨5,4,-1,0,b+3⟩:=by rw [hL]; rfl
 have g5:L.getD 5 default=⟨11,0,4,0,f+9⟩:=by rw [hL]; rfl
 have g6:L.getD 6 default=⟨1,7,0,0,0⟩:=by rw [hL]; rfl
 have g7:L.getD 7 default=⟨7,0,-1,7,b⟩:=by rw [hL]; rfl
 have g8:L.getD 8 default=⟨13,0,0,0,0⟩:=by rw [hL]; rfl
 have g9:L.getD 9 default=⟨1,7,0,0,1⟩:=by rw [hL]; rfl
 have g10:L.getD 10 default=⟨6,0,-1,7,b+3⟩:=by rw [hL]; rfl
 have g11:L.getD 11 default=⟨1,7,0,0,0⟩:=by rw [hL]; rfl
 have g12:L.getD 12 default=⟨7,0,-1,7,b⟩:=by rw [hL]; rfl
 clear hL
 have hst:wW th ⟨c,lst,cl⟩ x=(th,(vF ⟨c,lst,cl⟩).1,!decide ((vF ⟨c,lst,cl⟩).2=2)):=by unfold wW; rw [if_neg (by omega),if_neg (by omega)]
 cases cl
 ·have e8':cls=0:=e8
  subst e8'
  have hc:vF ⟨c,lst,false⟩=(⟨c,lst,true⟩,0):=by unfold vF; rw [h7]; rfl
  rw [hc] at hst
  simp [zY,zX,uU,vX.nx,vX.good,vX.ends,uV,bU,xC,xB,gW,So.settled,So.get,So.put,So.to,fle,sF,uM,hlen,-qXq,g2,g3,g4,g5,g6,g7,g8,g9,g10,g11,g12]
  exact ⟨fun e=>absurd e (by simp),fun _ _=>⟨by simp,by rw [hst]; rfl,by rw [hst]⟩,fun _ e=>absurd rfl e,fun e=>absurd e (by simp),fun _=>by rw [hst]; exact ⟨e1,e2,e3,e4,e5,e6,e7,rfl,e9⟩,⟨fun e=>absurd e.1 (by simp),fun e=>by omega⟩,rfl⟩
 ·have e8':cls=1:=e8
  subst e8'
  have hc:vF ⟨c,lst,true⟩=(⟨c,lst,true⟩,2):=by unfold vF; rfl
  rw [hc] at hst
  simp [zY,zX,uU,vX.nx,vX.good,vX.ends,uV,bU,xC,xB,gW,So.settled,So.get,So.put,So.to,fle,sF,uM,hlen,-qXq,g2,g3,g4,g5,g6,g7,g8,g9,g10,g11,g12]
  exact ⟨fun _=>by rw [hst]; rfl,fun e=>absurd e (by simp),fun e=>absurd e (by simp),fun e=>absurd e (by simp),fun _=>by rw [hst]; exact H.same rfl rfl rfl rfl,⟨fun e=>absurd e.1 (by simp),fun e=>by omega⟩,rfl⟩
theorem qS5 {f b:Int} {x:Ins} {s:So} {th:vA} {ch:bS} (hx:x.op=5) (ho:Op4 x) (h:Got s th ch) :∃s' fl,fC f b (bD f b ch.cap x) 40 s=some (s',fl)∧qLj 29 th ch x s' fl:=by
 obtain ⟨h1,h2,h3,h4,h5,h6,h7⟩:=h
 obtain ⟨r0,r1,a0,a1,b0,b1⟩:=ho
 obtain ⟨k,low,t4,t5,t6,t7,fst,cnt,cls,dat,hold⟩:=s
 simp only at h1 h2 h4 h5
 subst h1 h2 h4 h5
 obtain ⟨c,lst,cl⟩:=ch
 have H:=h6
 obtain ⟨e1,e2,e3,e4,e5,e6,e7,e8,e9⟩:=h6
 simp only at e1 e2 e3 e4 e5 e6 e7 e8 e9
 have hL:bD f b c x=[⟨1,7,0,0,1⟩,⟨8,6,0,7,b⟩,⟨11,0,6,0,f+4⟩,⟨10,0,0,0,f⟩,⟨5,4,-1,0,b+3⟩,⟨11,0,4,0,f+9⟩,⟨1,7,0,0,0⟩,⟨7,0,-1,7,b⟩,⟨13,0,0,0,0⟩,⟨5,5,-1,0,b+2⟩,⟨1,7,0,0,c⟩,⟨4,6,5,7,0⟩,⟨11,0,6,0,f+26⟩,⟨5,4,-1,0,b+1⟩,⟨2,4,4,5,0⟩,⟨4,6,4,7,0⟩,⟨11,0,6,0,f+18⟩,⟨10,0,0,0,f+19⟩,⟨3,4,4,7,0⟩,⟨6,0,4,x.a,b+4⟩,⟨1,7,0,0,1⟩,⟨2,5,5,7,0⟩,⟨6,0,-1,5,b+2⟩,⟨1,7,0,0,0⟩,⟨7,0,-1,7,b⟩,⟨10,0,0,0,f+29⟩,⟨1,7,0,0,0⟩,⟨7,0,-1,7,b⟩,⟨10,0,0,0,f⟩]:=by simp [bD,gE,cK,cJ,cA,eT,eO,uM,hx]
 generalize bD f b c x=L at hL⊢
 have hlen:L.length=29:=by rw [hL]; rfl
 have g2:L.getD 2 default=⟨11,0,6,0,f+4⟩:=by rw [hL]; rfl
 have g3:L.getD 3 default=⟨10,0,0,0,f⟩:=by rw [hL]; rfl
 have g4:L.getD 4 default=⟨5,4,-1,0,b+3⟩:=by rw [hL]; rfl
 have g5:L.getD 5 default=⟨11,0,4,0,f+9⟩:=by rw [hL]; rfl
 have g6:L.getD 6 default=⟨1,7,0,0,0⟩:=by rw [hL]; rfl
 have g7:L.getD 7 default=⟨7,0,-1,7,b⟩:=by rw [hL]; rfl
 have g8:L.getD 8 default=⟨13,0,0,0,0⟩:=by rw [hL]; rfl
 have g9:L.getD 9 default=⟨5,5,-1,0,b+2⟩:=by rw [hL]; rfl
 have g10:L.getD 10 default=⟨1,7,0,0,c⟩:=by rw [hL]; rfl
 have g11:L.getD 11 default=⟨4,6,5,7,0⟩:=by rw [hL]; rfl
 have g12:L.getD 12 default=⟨11,0,6,0,f+26⟩:=by rw [hL]; rfl
 have g13:L.getD 13 default=⟨5,4,-1,0,b+1⟩:=by rw [hL]; rfl
 have g14:L.getD 14 default=⟨2,4,4,5,0⟩:=by rw [hL]; rfl
 have g15:L.getD 15 default=⟨4,6,4,7,0⟩:=by rw [hL]; rfl
 have g16:L.getD 16 default=⟨11,0,6,0,f+18⟩:=by rw [hL]; rfl
 have g17:L.getD 17 default=⟨10,0,0,0,f+19⟩:=by rw [hL]; rfl
 have g18:L.getD 18 default=⟨3,4,4,7,0⟩:=by rw [hL]; rfl
 have g19:L.getD 19 default=⟨6,0,4,x.a,b+4⟩:=by rw [hL]; rfl
 have g20:L.getD 20 default=⟨1,7,0,0,1⟩:=by rw [hL]; rfl
 have g21:L.getD 21 default=⟨2,5,5,7,0⟩:=by rw [hL]; rfl
 have g22:L.getD 22 default=⟨6,0,-1,5,b+2⟩:=by rw [hL]; rfl
 have g23:L.getD 23 default=⟨1,7,0,0,0⟩:=by rw [hL]; rfl
 have g24:L.getD 24 default=⟨7,0,-1,7,b⟩:=by rw [hL]; rfl
 have g25:L.getD 25 default=⟨10,0,0,0,f+29⟩:=by rw [hL]; rfl
 have g26:L.getD 26 default=⟨1,7,0,0,0⟩:=by rw [hL]; rfl
 have g27:L.getD 27 default=⟨7,0,-1,7,b⟩:=by rw [hL]; rfl
 have g28:L.getD 28 default=⟨10,0,0,0,f⟩:=by rw [hL]; rfl
 clear hL
 have hst:wW th ⟨c,lst,cl⟩ x=(if x.op=7∧¬(yD ⟨c,lst,cl⟩ (reg th x.a)).2=2 then wX th x.r (uM (decide ((yD ⟨c,lst,cl⟩ (reg th x.a)).2=0))) else th,(yD ⟨c,lst,cl⟩ (reg th x.a)).1,!decide ((yD ⟨c,lst,cl⟩ (reg th x.a)).2=2)):=by unfold wW; rw [if_pos (by omega)]
 rw [hx] at hst
 have hv:th.regs.getD x.a.toNat 0=reg th x.a:=rfl
 cases cl
 ·have e8':cls=0:=e8
  subst e8'
  by_cases hful:(lst.length:Int)=c
  ·have hc:yD ⟨c,lst,false⟩ (reg th x.a)=(⟨c,lst,false⟩,1):=by unfold yD; rw [h7]; simp [hful]
   rw [hc] at hst
   have w1 :¬cnt<c:=by omega
   simp [zY,zX,uU,vX.nx,vX.good,vX.ends,uV,bU,xC,xB,gW,So.settled,So.get,So.put,So.to,fle,sF,uM,hlen,-qXq,g2,g3,g4,g5,g6,g7,g8,g9,g10,g11,g12,g13,g14,g15,g16,g17,g18,g19,g20,g21,g22,g23,g24,g25,g26,g27,g28,w1,r1]
   exact ⟨fun e=>absurd e (by simp),fun _ e=>absurd e (by simp),fun _ _=>⟨rfl,rfl,.inl hx⟩,fun _ _=>H.same rfl rfl rfl rfl,fun e=>by simp at e,⟨fun _=>⟨rfl,.inl ⟨hx,hful⟩⟩,fun _=>⟨rfl,rfl⟩⟩,rfl⟩
  ·have hc:yD ⟨c,lst,false⟩ (reg th x.a)=(⟨c,lst++[reg th x.a],false⟩,0):=by unfold yD; rw [h7]; simp [hful]
   rw [hc] at hst
   have w1:cnt<c:=by omega
   have w2:IntKind.i64.wrap (fst+cnt)=fst+cnt:=wK (by omega) (by omega)
   have w3:IntKind.i64.wrap (fst+cnt-c)=fst+cnt-c:=wK (by omega) (by omega)
   have w4:IntKind.i64.wrap (cnt+1)=cnt+1:=wK (by omega) (by omega)
   by_cases hwr:fst+cnt<c
   ·have q1:0≤fst+cnt:=by omega
    have q2:(fst+cnt).toNat<dat.length:=by omega
    simp [zY,zX,uU,vX.nx,vX.good,vX.ends,uV,bU,xC,xB,gW,So.settled,So.get,So.put,So.to,fle,sF,uM,hlen,-qXq,g2,g3,g4,g5,g6,g7,g8,g9,g10,g11,g12,g13,g14,g15,g16,g17,g18,g19,g20,g21,g22,g23,g24,g25,g26,g27,g28,w1,w2,w3,w4,hwr,q1,q2,r1,a1,hv]
    refine ⟨fun e=>absurd e (by simp),fun _ _=>⟨by simp,by rw [hst]; rfl,by rw [hst]; rfl⟩,fun _ e=>absurd rfl e,fun e=>absurd e (by simp),fun _=>?_,⟨fun e=>absurd e.1 (by simp),fun e=>by rcases e.2 with e | e<;>simp only at e<;>omega⟩,rfl⟩
    rw [hst]
    exact H.send hful (by simp only; rw [if_pos hwr]; omega) rfl rfl rfl rfl
   ·have q1:c≤fst+cnt:=by omega
    have q2:(fst+cnt-c).toNat<dat.length:=by omega
    simp [zY,zX,uU,vX.nx,vX.good,vX.ends,uV,bU,xC,xB,gW,So.settled,So.get,So.put,So.to,fle,sF,uM,hlen,-qXq,g2,g3,g4,g5,g6,g7,g8,g9,g10,g11,g12,g13,g14,g15,g16,g17,g18,g19,g20,g21,g22,g23,g24,g25,g26,g27,g28,w1,w2,w3,w4,hwr,q1,q2,r1,a1,hv]
    refine ⟨fun e=>absurd e (by simp),fun _ _=>⟨by simp,by rw [hst]; rfl,by rw [hst]; rfl⟩,fun _ e=>absurd rfl e,fun e=>absurd e (by simp),fun _=>?_,⟨fun e=>absurd e.1 (by simp),fun e=>by rcases e.2 with e | e<;>simp only at e<;>omega⟩,rfl⟩
    rw [hst]
    exact H.send hful (by simp only; rw [if_neg hwr]; omega) rfl rfl rfl rfl
 ·have e8':cls=1:=e8
  subst e8'
  have hc:yD ⟨c,lst,true⟩ (reg th x.a)=(⟨c,lst,true⟩,2):=by unfold yD; rfl
  rw [hc] at hst
  simp [zY,zX,uU,vX.nx,vX.good,vX.ends,uV,bU,xC,xB,gW,So.settled,So.get,So.put,So.to,fle,sF,uM,hlen,-qXq,g2,g3,g4,g5,g6,g7,g8,g9,g10,g11,g12,g13,g14,g15,g16,g17,g18,g19,g20,g21,g22,g23,g24,g25,g26,g27,g28]
  exact ⟨fun _=>by rw [hst]; rfl,fun e=>absurd e (by simp),fun e=>absurd e (by simp),fun _ e=>absurd e (by simp),fun _=>by rw [hst]; exact H.same rfl rfl rfl rfl,⟨fun e=>absurd e.2 (by simp),fun e=>absurd e.1 (by simp)⟩,rfl⟩
theorem qLt {f b:Int} {x:Ins} {s:So} {th:vA} {ch:bS} (hx:x.op=7) (ho:Op4 x) (h:Got s th ch) :∃s' fl,fC f b (bD f b ch.cap x) 40 s=some (s',fl)∧qLj 31 th ch x s' fl:=by
 obtain ⟨h1,h2,h3,h4,h5,h6,h7⟩:=h
 obtain ⟨r0,r1,a0,a1,b0,b1⟩:=ho
 obtain ⟨k,low,t4,t5,t6,t7,fst,cnt,cls,dat,hold⟩:=s
 simp only at h1 h2 h4 h5
 subst h1 h2 h4 h5
 obtain ⟨c,lst,cl⟩:=ch
 have H:=h6
 obtain ⟨e1,e2,e3,e4,e5,e6,e7,e8,e9⟩:=h6
 simp only at e1 e2 e3 e4 e5 e6 e7 e8 e9
 have hL:bD f b c x=[⟨1,7,0,0,1⟩,⟨8,6,0,7,b⟩,⟨11,0,6,0,f+4⟩,⟨10,0,0,0,f⟩,⟨5,4,-1,0,b+3⟩,⟨11,0,4,0,f+9⟩,⟨1,7,0,0,0⟩,⟨7,0,-1,7,b⟩,⟨13,0,0,0,0⟩,⟨5,5,-1,0,b+2⟩,⟨1,7,0,0,c⟩,⟨4,6,5,7,0⟩,⟨11,0,6,0,f+27⟩,⟨5,4,-1,0,b+1⟩,⟨2,4,4,5,0⟩,⟨4,6,4,7,0⟩,⟨11,0,6,0,f+18⟩,⟨10,0,0,0,f+19⟩,⟨3,4,4,7,0⟩,⟨6,0,4,x.a,b+4⟩,⟨1,7,0,0,1⟩,⟨2,5,5,7,0⟩,⟨6,0,-1,5,b+2⟩,⟨1,7,0,0,0⟩,⟨7,0,-1,7,b⟩,⟨1,x.r,0,0,1⟩,⟨10,0,0,0,f+31⟩,⟨1,7,0,0,0⟩,⟨7,0,-1,7,b⟩,⟨1,x.r,0,0,0⟩,⟨10,0,0,0,f+31⟩]:=by simp [bD,gE,cK,cJ,cA,eT,eO,uM,hx]
 generalize bD f b c x=L at hL⊢
 have hlen:L.length=31:=by rw [hL]; rfl
 have g2:L.getD 2 default=⟨11,0,6,0,f+4⟩:=by rw [hL]; rfl
 have g3:L.getD 3 default=⟨10,0,0,0,f⟩:=by rw [hL]; rfl
 have g4:L.getD 4 default=⟨5,4,-1,0,b+3⟩:=by rw [hL]; rfl
 have g5:L.getD 5 default=⟨11,0,4,0,f+9⟩:=by rw [hL]; rfl
 have g6:L.getD 6 default=⟨1,7,0,0,0⟩:=by rw [hL]; rfl
 have g7:L.getD 7 default=⟨7,0,-1,7,b⟩:=by rw [hL]; rfl
 have g8:L.getD 8 default=⟨13,0,0,0,0⟩:=by rw [hL]; rfl
 have g9:L.getD 9 default=⟨5,5,-1,0,b+2⟩:=by rw [hL]; rfl
 have g10:L.getD 10 default=⟨1,7,0,0,c⟩:=by rw [hL]; rfl
 have g11:L.getD 11 default=⟨4,6,5,7,0⟩:=by rw [hL]; rfl
 have g12:L.getD 12 default=⟨11,0,6,0,f+27⟩:=by rw [hL]; rfl
 have g13:L.getD 13 default=⟨5,4,-1,0,b+1⟩:=by rw [hL]; rfl
 have g14:L.getD 14 default=⟨2,4,4,5,0⟩:=by rw [hL]; rfl
 have g15:L.getD 15 default=⟨4,6,4,7,0⟩:=by rw [hL]; rfl
 have g16:L.getD 16 default=⟨11,0,6,0,f+18⟩:=by rw [hL]; rfl
 have g17:L.getD 17 default=⟨10,0,0,0,f+19⟩:=by rw [hL]; rfl
 have g18:L.getD 18 default=⟨3,4,4,7,0⟩:=by rw [hL]; rfl
 have g19:L.getD 19 default=⟨6,0,4,x.a,b+4⟩:=by rw [hL]; rfl
 have g20:L.getD 20 default=⟨1,7,0,0,1⟩:=by rw [hL]; rfl
 have g21:L.getD 21 default=⟨2,5,5,7,0⟩:=by rw [hL]; rfl
 have g22:L.getD 22 default=⟨6,0,-1,5,b+2⟩:=by rw [hL]; rfl
 have g23:L.getD 23 default=⟨1,7,0,0,0⟩:=by rw [hL]; rfl
 have g24:L.getD 24 default=⟨7,0,-1,7,b⟩:=by rw [hL]; rfl
 have g25:L.getD 25 default=⟨1,x.r,0,0,1⟩:=by rw [hL]; rfl
 have g26:L.getD 26 default=⟨10,0,0,0,f+31⟩:=by rw [hL]; rfl
 have g27:L.getD 27 default=⟨1,7,0,0,0⟩:=by rw [hL]; rfl
 have g28:L.getD 28 default=⟨7,0,-1,7,b⟩:=by rw [hL]; rfl
 have g29:L.getD 29 default=⟨1,x.r,0,0,0⟩:=by rw [hL]; rfl
 have g30:L.getD 30 default=⟨10,0,0,0,f+31⟩:=by rw [hL]; rfl
 clear hL
 have hst:wW th ⟨c,lst,cl⟩ x=(if x.op=7∧¬(yD ⟨c,lst,cl⟩ (reg th x.a)).2=2 then wX th x.r (uM (decide ((yD ⟨c,lst,cl⟩ (reg th x.a)).2=0))) else th,(yD ⟨c,lst,cl⟩ (reg th x.a)).1,!decide ((yD ⟨c,lst,cl⟩ (reg th x.a)).2=2)):=by unfold wW; rw [if_pos (by omega)]
 rw [hx] at hst
 have hv:th.regs.getD x.a.toNat 0=reg th x.a:=rfl
 cases cl
 ·have e8':cls=0:=e8
  subst e8'
  by_cases hful:(lst.length:Int)=c
  ·have hc:yD ⟨c,lst,false⟩ (reg th x.a)=(⟨c,lst,false⟩,1):=by unfold yD; rw [h7]; simp [hful]
   rw [hc] at hst
   have w1 :¬cnt<c:=by omega
   simp [zY,zX,uU,vX.nx,vX.good,vX.ends,uV,bU,xC,xB,gW,So.settled,So.get,So.put,So.to,fle,sF,uM,hlen,-qXq,g2,g3,g4,g5,g6,g7,g8,g9,g10,g11,g12,g13,g14,g15,g16,g17,g18,g19,g20,g21,g22,g23,g24,g25,g26,g27,g28,g29,g30,w1,r1]
   exact ⟨fun e=>absurd e (by simp),fun _ _=>⟨by simp,by rw [hst]; rfl,by rw [hst]; rfl⟩,fun _ e=>absurd rfl e,fun e=>absurd e (by simp),fun _=>by rw [hst]; exact H.same rfl rfl rfl rfl,⟨fun e=>absurd e.1 (by simp),fun e=>by omega⟩,rfl⟩
  ·have hc:yD ⟨c,lst,false⟩ (reg th x.a)=(⟨c,lst++[reg th x.a],false⟩,0):=by unfold yD; rw [h7]; simp [hful]
   rw [hc] at hst
   have w1:cnt<c:=by omega
   have w2:IntKind.i64.wrap (fst+cnt)=fst+cnt:=wK (by omega) (by omega)
   have w3:IntKind.i64.wrap (fst+cnt-c)=fst+cnt-c:=wK (by omega) (by omega)
   have w4:IntKind.i64.wrap (cnt+1)=cnt+1:=wK (by omega) (by omega)
   by_cases hwr:fst+cnt<c
   ·have q1:0≤fst+cnt:=by omega
    have q2:(fst+cnt).toNat<dat.length:=by omega
    simp [zY,zX,uU,vX.nx,vX.good,vX.ends,uV,bU,xC,xB,gW,So.settled,So.get,So.put,So.to,fle,sF,uM,hlen,-qXq,g2,g3,g4,g5,g6,g7,g8,g9,g10,g11,g12,g13,g14,g15,g16,g17,g18,g19,g20,g21,g22,g23,g24,g25,g26,g27,g28,g29,g30,w1,w2,w3,w4,hwr,q1,q2,r1,a1,hv]
    refine ⟨fun e=>absurd e (by simp),fun _ _=>⟨by simp,by rw [hst]; rfl,by rw [hst]; rfl⟩,fun _ e=>absurd rfl e,fun e=>absurd e (by simp),fun _=>?_,⟨fun e=>absurd e.1 (by simp),fun e=>by rcases e.2 with e | e<;>simp only at e<;>omega⟩,rfl⟩
    rw [hst]
    exact H.send hful (by simp only; rw [if_pos hwr]; omega) rfl rfl rfl rfl
   ·have q1:c≤fst+cnt:=by omega
    have q2:(fst+cnt-c).toNat<dat.length:=by omega
    simp [zY,zX,uU,vX.nx,vX.good,vX.ends,uV,bU,xC,xB,gW,So.settled,So.get,So.put,So.to,fle,sF,uM,hlen,-qXq,g2,g3,g4,g5,g6,g7,g8,g9,g10,g11,g12,g13,g14,g15,g16,g17,g18,g19,g20,g21,g22,g23,g24,g25,g26,g27,g28,g29,g30,w1,w2,w3,w4,hwr,q1,q2,r1,a1,hv]
    refine ⟨fun e=>absurd e (by simp),fun _ _=>⟨by simp,by rw [hst]; rfl,by rw [hst]; rfl⟩,fun _ e=>absurd rfl e,fun e=>absurd e (by simp),fun _=>?_,⟨fun e=>absurd e.1 (by simp),fun e=>by rcases e.2 with e | e<;>simp only at e<;>omega⟩,rfl⟩
    rw [hst]
    exact H.send hful (by simp only; rw [if_neg hwr]; omega) rfl rfl rfl rfl
 ·have e8':cls=1:=e8
  subst e8'
  have hc:yD ⟨c,lst,true⟩ (reg th x.a)=(⟨c,lst,true⟩,2):=by unfold yD; rfl
  rw [hc] at hst
  simp [zY,zX,uU,vX.nx,vX.good,vX.ends,uV,bU,xC,xB,gW,So.settled,So.get,So.put,So.to,fle,sF,uM,hlen,-qXq,g2,g3,g4,g5,g6,g7,g8,g9,g10,g11,g12,g13,g14,g15,g16,g17,g18,g19,g20,g21,g22,g23,g24,g25,g26,g27,g28,g29,g30]
  exact ⟨fun _=>by rw [hst]; rfl,fun e=>absurd e (by simp),fun e=>absurd e (by simp),fun _ e=>absurd e (by simp),fun _=>by rw [hst]; exact H.same rfl rfl rfl rfl,⟨fun e=>absurd e.2 (by simp),fun e=>absurd e.1 (by simp)⟩,rfl⟩
theorem qS4 {f b:Int} {x:Ins} {s:So} {th:vA} {ch:bS} (hx:x.op=6) (ho:Op4 x) (h:Got s th ch) (hne:x.r≠x.b) :∃s' fl,fC f b (bD f b ch.cap x) 40 s=some (s',fl)∧qLj 30 th ch x s' fl:=by
 obtain ⟨h1,h2,h3,h4,h5,h6,h7⟩:=h
 obtain ⟨r0,r1,a0,a1,b0,b1⟩:=ho
 obtain ⟨k,low,t4,t5,t6,t7,fst,cnt,cls,dat,hold⟩:=s
 simp only at h1 h2 h4 h5
 subst h1 h2 h4 h5
 obtain ⟨c,lst,cl⟩:=ch
 have H:=h6
 obtain ⟨e1,e2,e3,e4,e5,e6,e7,e8,e9⟩:=h6
 simp only at e1 e2 e3 e4 e5 e6 e7 e8 e9
 have hL:bD f b c x=[⟨1,7,0,0,1⟩,⟨8,6,0,7,b⟩,⟨11,0,6,0,f+4⟩,⟨10,0,0,0,f⟩,⟨5,5,-1,0,b+2⟩,⟨11,0,5,0,f+22⟩,⟨5,4,-1,0,b+1⟩,⟨5,x.r,4,0,b+4⟩,⟨1,7,0,0,1⟩,⟨2,4,4,7,0⟩,⟨3,5,5,7,0⟩,⟨1,7,0,0,c⟩,⟨4,6,4,7,0⟩,⟨11,0,6,0,f+15⟩,⟨10,0,0,0,f+16⟩,⟨1,4,0,0,0⟩,⟨6,0,-1,4,b+1⟩,⟨6,0,-1,5,b+2⟩,⟨1,7,0,0,0⟩,⟨7,0,-1,7,b⟩,⟨1,x.b,0,0,1⟩,⟨10,0,0,0,f+30⟩,⟨5,4,-1,0,b+3⟩,⟨1,7,0,0,0⟩,⟨7,0,-1,7,b⟩,⟨11,0,4,0,f+29⟩,⟨1,x.r,0,0,0⟩,⟨1,x.b,0,0,0⟩,⟨10,0,0,0,f+30⟩,⟨10,0,0,0,f⟩]:=by simp [bD,gE,cK,cJ,cA,eT,eO,uM,hx]
 generalize bD f b c x=L at hL⊢
 have hlen:L.length=30:=by rw [hL]; rfl
 have g2:L.getD 2 default=⟨11,0,6,0,f+4⟩:=by rw [hL]; rfl
 have g3:L.getD 3 default=⟨10,0,0,0,f⟩:=by rw [hL]; rfl
 have g4:L.getD 4 default=⟨5,5,-1,0,b+2⟩:=by rw [hL]; rfl
 have g5:L.getD 5 default=⟨11,0,5,0,f+22⟩:=by rw [hL]; rfl
 have g6:L.getD 6 default=⟨5,4,-1,0,b+1⟩:=by rw [hL]; rfl
 have g7:L.getD 7 default=⟨5,x.r,4,0,b+4⟩:=by rw [hL]; rfl
 have g8:L.getD 8 default=⟨1,7,0,0,1⟩:=by rw [hL]; rfl
 have g9:L.getD 9 default=⟨2,4,4,7,0⟩:=by rw [hL]; rfl
 have g10:L.getD 10 default=⟨3,5,5,7,0⟩:=by rw [hL]; rfl
 have g11:L.getD 11 default=⟨1,7,0,0,c⟩:=by rw [hL]; rfl
 have g12:L.getD 12 default=⟨4,6,4,7,0⟩:=by rw [hL]; rfl
 have g13:L.getD 13 default=⟨11,0,6,0,f+15⟩:=by rw [hL]; rfl
 have g14:L.getD 14 default=⟨10,0,0,0,f+16⟩:=by rw [hL]; rfl
 have g15:L.getD 15 default=⟨1,4,0,0,0⟩:=by rw [hL]; rfl
 have g16:L.getD 16 default=⟨6,0,-1,4,b+1⟩:=by rw [hL]; rfl
 have g17:L.getD 17 default=⟨6,0,-1,5,b+2⟩:=by rw [hL]; rfl
 have g18:L.getD 18 default=⟨1,7,0,0,0⟩:=by rw [hL]; rfl
 have g19:L.getD 19 default=⟨7,0,-1,7,b⟩:=by rw [hL]; rfl
 have g20:L.getD 20 default=⟨1,x.b,0,0,1⟩:=by rw [hL]; rfl
 have g21:L.getD 21 default=⟨10,0,0,0,f+30⟩:=by rw [hL]; rfl
 have g22:L.getD 22 default=⟨5,4,-1,0,b+3⟩:=by rw [hL]; rfl
 have g23:L.getD 23 default=⟨1,7,0,0,0⟩:=by rw [hL]; rfl
 have g24:L.getD 24 default=⟨7,0,-1,7,b⟩:=by rw [hL]; rfl
 have g25:L.getD 25 default=⟨11,0,4,0,f+29⟩:=by rw [hL]; rfl
 have g26:L.getD 26 default=⟨1,x.r,0,0,0⟩:=by rw [hL]; rfl
 have g27:L.getD 27 default=⟨1,x.b,0,0,0⟩:=by rw [hL]; rfl
 have g28:L.getD 28 default=⟨10,0,0,0,f+30⟩:=by rw [hL]; rfl
 have g29:L.getD 29 default=⟨10,0,0,0,f⟩:=by rw [hL]; rfl
 clear hL
 have hst:wW th ⟨c,lst,cl⟩ x=(if (wM ⟨c,lst,cl⟩).2.2=3∧x.op=8 then wX (wX (wX th x.r (wM ⟨c,lst,cl⟩).2.1) x.b (uM (decide ((wM ⟨c,lst,cl⟩).2.2=0)))) x.b 2 else wX (wX th x.r (wM ⟨c,lst,cl⟩).2.1) x.b (uM (decide ((wM ⟨c,lst,cl⟩).2.2=0))),(wM ⟨c,lst,cl⟩).1,!decide ((wM ⟨c,lst,cl⟩).2.2=2)):=by unfold wW; rw [if_neg (by omega),if_pos (by omega)]
 rw [hx] at hst
 by_cases hemp:0<lst.length
 ·have hc:wM ⟨c,lst,cl⟩=(⟨c,lst.drop 1,cl⟩,lst.getD 0 0,0):=by unfold wM; rw [h7]; simp [hemp,-qXq]
  rw [hc] at hst
  have hfi:=H.first hemp
  simp only at hfi
  rw [hfi] at hst
  have w1 :¬cnt=0:=by omega
  have w2:IntKind.i64.wrap (fst+1)=fst+1:=wK (by omega) (by omega)
  have w3:IntKind.i64.wrap (cnt-1)=cnt-1:=wK (by omega) (by omega)
  have q2:fst.toNat<dat.length:=by omega
  by_cases hwr:fst+1<c
  ·simp [zY,zX,uU,vX.nx,vX.good,vX.ends,uV,bU,xC,xB,gW,So.settled,So.get,So.put,So.to,fle,sF,uM,hlen,-qXq,g2,g3,g4,g5,g6,g7,g8,g9,g10,g11,g12,g13,g14,g15,g16,g17,g18,g19,g20,g21,g22,g23,g24,g25,g26,g27,g28,g29,w1,w2,w3,hwr,e5,q2,r1,b1]
   refine ⟨fun e=>absurd e (by simp),fun _ _=>⟨by simp,by rw [hst]; rfl,by rw [hst]; rfl⟩,fun _ e=>absurd rfl e,fun e=>absurd e (by simp),fun _=>?_,⟨fun e=>absurd e.1 (by simp),fun e=>by rcases e.2 with e | e<;>simp only at e<;>omega⟩,rfl⟩
   rw [hst]
   exact H.take hemp rfl (by simp only; rw [if_pos hwr]) rfl rfl
  ·simp [zY,zX,uU,vX.nx,vX.good,vX.ends,uV,bU,xC,xB,gW,So.settled,So.get,So.put,So.to,fle,sF,uM,hlen,-qXq,g2,g3,g4,g5,g6,g7,g8,g9,g10,g11,g12,g13,g14,g15,g16,g17,g18,g19,g20,g21,g22,g23,g24,g25,g26,g27,g28,g29,w1,w2,w3,hwr,e5,q2,r1,b1]
   refine ⟨fun e=>absurd e (by simp),fun _ _=>⟨by simp,by rw [hst]; rfl,by rw [hst]; rfl⟩,fun _ e=>absurd rfl e,fun e=>absurd e (by simp),fun _=>?_,⟨fun e=>absurd e.1 (by simp),fun e=>by rcases e.2 with e | e<;>simp only at e<;>omega⟩,rfl⟩
   rw [hst]
   exact H.take hemp rfl (by simp only; rw [if_neg hwr]) rfl rfl
 have w1:cnt=0:=by omega
 subst w1
 have hlz:lst.length=0:=by omega
 cases cl
 ·have e8':cls=0:=e8
  subst e8'
  have hc:wM ⟨c,lst,false⟩=(⟨c,lst,false⟩,0,1):=by unfold wM; rw [h7]; simp [hlz]
  rw [hc] at hst
  simp [zY,zX,uU,vX.nx,vX.good,vX.ends,uV,bU,xC,xB,gW,So.settled,So.get,So.put,So.to,fle,sF,uM,hlen,-qXq,g2,g3,g4,g5,g6,g7,g8,g9,g10,g11,g12,g13,g14,g15,g16,g17,g18,g19,g20,g21,g22,g23,g24,g25,g26,g27,g28,g29,r1,b1]
  exact ⟨fun e=>absurd e (by simp),fun _ e=>absurd e (by simp),fun _ _=>⟨rfl,rfl,.inr hx⟩,fun _ _=>H.same rfl rfl rfl rfl,fun e=>by simp at e,⟨fun _=>⟨rfl,.inr ⟨hx,by simp only; omega⟩⟩,fun _=>⟨rfl,rfl⟩⟩,rfl⟩
 ·have e8':cls=1:=e8
  subst e8'
  have hc:wM ⟨c,lst,true⟩=(⟨c,lst,true⟩,0,3):=by unfold wM; rw [h7]; simp [hlz]
  rw [hc] at hst
  simp [zY,zX,uU,vX.nx,vX.good,vX.ends,uV,bU,xC,xB,gW,So.settled,So.get,So.put,So.to,fle,sF,uM,hlen,-qXq,g2,g3,g4,g5,g6,g7,g8,g9,g10,g11,g12,g13,g14,g15,g16,g17,g18,g19,g20,g21,g22,g23,g24,g25,g26,g27,g28,g29,r1,b1]
  refine ⟨fun e=>absurd e (by simp),fun _ _=>⟨by simp,by rw [hst]; rfl,?_⟩,fun _ e=>absurd rfl e,fun e=>absurd e (by simp),fun _=>by rw [hst]; exact H.same rfl rfl rfl rfl,⟨fun e=>absurd e.1 (by simp),fun e=>absurd e.1 (by simp)⟩,rfl⟩
  rw [hst]
  simp [wX,uM]
theorem qLs {f b:Int} {x:Ins} {s:So} {th:vA} {ch:bS} (hx:x.op=8) (ho:Op4 x) (h:Got s th ch) (hne:x.r≠x.b) :∃s' fl,fC f b (bD f b ch.cap x) 40 s=some (s',fl)∧qLj 32 th ch x s' fl:=by
 obtain ⟨h1,h2,h3,h4,h5,h6,h7⟩:=h
 obtain ⟨r0,r1,a0,a1,b0,b1⟩:=ho
 obtain ⟨k,low,t4,t5,t6,t7,fst,cnt,cls,dat,hold⟩:=s
 simp only at h1 h2 h4 h5
 subst h1 h2 h4 h5
 obtain ⟨c,lst,cl⟩:=ch
 have H:=h6
 obtain ⟨e1,e2,e3,e4,e5,e6,e7,e8,e9⟩:=h6
 simp only at e1 e2 e3 e4 e5 e6 e7 e8 e9
 have hL:bD f b c x=[⟨1,7,0,0,1⟩,⟨8,6,0,7,b⟩,⟨11,0,6,0,f+4⟩,⟨10,0,0,0,f⟩,⟨5,5,-1,0,b+2⟩,⟨11,0,5,0,f+22⟩,⟨5,4,-1,0,b+1⟩,⟨5,x.r,4,0,b+4⟩,⟨1,7,0,0,1⟩,⟨2,4,4,7,0⟩,⟨3,5,5,7,0⟩,⟨1,7,0,0,c⟩,⟨4,6,4,7,0⟩,⟨11,0,6,0,f+15⟩,⟨10,0,0,0,f+16⟩,⟨1,4,0,0,0⟩,⟨6,0,-1,4,b+1⟩,⟨6,0,-1,5,b+2⟩,⟨1,7,0,0,0⟩,⟨7,0,-1,7,b⟩,⟨1,x.b,0,0,1⟩,⟨10,0,0,0,f+32⟩,⟨5,4,-1,0,b+3⟩,⟨1,7,0,0,0⟩,⟨7,0,-1,7,b⟩,⟨11,0,4,0,f+29⟩,⟨1,x.r,0,0,0⟩,⟨1,x.b,0,0,2⟩,⟨10,0,0,0,f+32⟩,⟨1,x.r,0,0,0⟩,⟨1,x.b,0,0,0⟩,⟨10,0,0,0,f+32⟩]:=by simp [bD,gE,cK,cJ,cA,eT,eO,uM,hx]
 generalize bD f b c x=L at hL⊢
 have hlen:L.length=32:=by rw [hL]; rfl
 have g2:L.getD 2 default=⟨11,0,6,0,f+4⟩:=by rw [hL]; rfl
 have g3:L.getD 3 default=⟨10,0,0,0,f⟩:=by rw [hL]; rfl
 have g4:L.getD 4 default=⟨5,5,-1,0,b+2⟩:=by rw [hL]; rfl
 have g5:L.getD 5 default=⟨11,0,5,0,f+22⟩:=by rw [hL]; rfl
 have g6:L.getD 6 default=⟨5,4,-1,0,b+1⟩:=by rw [hL]; rfl
 have g7:L.getD 7 default=⟨5,x.r,4,0,b+4⟩:=by rw [hL]; rfl
 have g8:L.getD 8 default=⟨1,7,0,0,1⟩:=by rw [hL]; rfl
 have g9:L.getD 9 default=⟨2,4,4,7,0⟩:=by rw [hL]; rfl
 have g10:L.getD 10 default=⟨3,5,5,7,0⟩:=by rw [hL]; rfl
 have g11:L.getD 11 default=⟨1,7,0,0,c⟩:=by rw [hL]; rfl
 have g12:L.getD 12 default=⟨4,6,4,7,0⟩:=by rw [hL]; rfl
 have g13:L.getD 13 default=⟨11,0,6,0,f+15⟩:=by rw [hL]; rfl
 have g14:L.getD 14 default=⟨10,0,0,0,f+16⟩:=by rw [hL]; rfl
 have g15:L.getD 15 default=⟨1,4,0,0,0⟩:=by rw [hL]; rfl
 have g16:L.getD 16 default=⟨6,0,-1,4,b+1⟩:=by rw [hL]; rfl
 have g17:L.getD 17 default=⟨6,0,-1,5,b+2⟩:=by rw [hL]; rfl
 have g18:L.getD 18 default=⟨1,7,0,0,0⟩:=by rw [hL]; rfl
 have g19:L.getD 19 default=⟨7,0,-1,7,b⟩:=by rw [hL]; rfl
 have g20:L.getD 20 default=⟨1,x.b,0,0,1⟩:=by rw [hL]; rfl
 have g21:L.getD 21 default=⟨10,0,0,0,f+32⟩:=by rw [hL]; rfl
 have g22:L.getD 22 default=⟨5,4,-1,0,b+3⟩:=by rw [hL]; rfl
 have g23:L.getD 23 default=⟨1,7,0,0,0⟩:=by rw [hL]; rfl
 have g24:L.getD 24 default=⟨7,0,-1,7,b⟩:=by rw [hL]; rfl
 have g25:L.getD 25 default=⟨11,0,4,0,f+29⟩:=by rw [hL]; rfl
 have g26:L.getD 26 default=⟨1,x.r,0,0,0⟩:=by rw [hL]; rfl
 have g27:L.getD 27 default=⟨1,x.b,0,0,2⟩:=by rw [hL]; rfl
 have g28:L.getD 28 default=⟨10,0,0,0,f+32⟩:=by rw [hL]; rfl
 have g29:L.getD 29 default=⟨1,x.r,0,0,0⟩:=by rw [hL]; rfl
 have g30:L.getD 30 default=⟨1,x.b,0,0,0⟩:=by rw [hL]; rfl
 have g31:L.getD 31 default=⟨10,0,0,0,f+32⟩:=by rw [hL]; rfl
 clear hL
 have hst:wW th ⟨c,lst,cl⟩ x=(if (wM ⟨c,lst,cl⟩).2.2=3∧x.op=8 then wX (wX (wX th x.r (wM ⟨c,lst,cl⟩).2.1) x.b (uM (decide ((wM ⟨c,lst,cl⟩).2.2=0)))) x.b 2 else wX (wX th x.r (wM ⟨c,lst,cl⟩).2.1) x.b (uM (decide ((wM ⟨c,lst,cl⟩).2.2=0))),(wM ⟨c,lst,cl⟩).1,!decide ((wM ⟨c,lst,cl⟩).2.2=2)):=by unfold wW; rw [if_neg (by omega),if_pos (by omega)]
 rw [hx] at hst
 by_cases hemp:0<lst.length
 ·have hc:wM ⟨c,lst,cl⟩=(⟨c,lst.drop 1,cl⟩,lst.getD 0 0,0):=by unfold wM; rw [h7]; simp [hemp,-qXq]
  rw [hc] at hst
  have hfi:=H.first hemp
  simp only at hfi
  rw [hfi] at hst
  have w1 :¬cnt=0:=by omega
  have w2:IntKind.i64.wrap (fst+1)=fst+1:=wK (by omega) (by omega)
  have w3:IntKind.i64.wrap (cnt-1)=cnt-1:=wK (by omega) (by omega)
  have q2:fst.toNat<dat.length:=by omega
  by_cases hwr:fst+1<c
  ·simp [zY,zX,uU,vX.nx,vX.good,vX.ends,uV,bU,xC,xB,gW,So.settled,So.get,So.put,So.to,fle,sF,uM,hlen,-qXq,g2,g3,g4,g5,g6,g7,g8,g9,g10,g11,g12,g13,g14,g15,g16,g17,g18,g19,g20,g21,g22,g23,g24,g25,g26,g27,g28,g29,g30,g31,w1,w2,w3,hwr,e5,q2,r1,b1]
   refine ⟨fun e=>absurd e (by simp),fun _ _=>⟨by simp,by rw [hst]; rfl,by rw [hst]; rfl⟩,fun _ e=>absurd rfl e,fun e=>absurd e (by simp),fun _=>?_,⟨fun e=>absurd e.1 (by simp),fun e=>by rcases e.2 with e | e<;>simp only at e<;>omega⟩,rfl⟩
   rw [hst]
   exact H.take hemp rfl (by simp only; rw [if_pos hwr]) rfl rfl
  ·simp [zY,zX,uU,vX.nx,vX.good,vX.ends,uV,bU,xC,xB,gW,So.settled,So.get,So.put,So.to,fle,sF,uM,hlen,-qXq,g2,g3,g4,g5,g6,g7,g8,g9,g10,g11,g12,g13,g14,g15,g16,g17,g18,g19,g20,g21,g22,g23,g24,g25,g26,g27,g28,g29,g30,g31,w1,w2,w3,hwr,e5,q2,r1,b1]
   refine ⟨fun e=>absurd e (by simp),fun _ _=>⟨by simp,by rw [hst]; rfl,by rw [hst]; rfl⟩,fun _ e=>absurd rfl e,fun e=>absurd e (by simp),fun _=>?_,⟨fun e=>absurd e.1 (by simp),fun e=>by rcases e.2 with e | e<;>simp only at e<;>omega⟩,rfl⟩
   rw [hst]
   exact H.take hemp rfl (by simp only; rw [if_neg hwr]) rfl rfl
 have w1:cnt=0:=by omega
 subst w1
 have hlz:lst.length=0:=by omega
 cases cl
 ·have e8':cls=0:=e8
  subst e8'
  have hc:wM ⟨c,lst,false⟩=(⟨c,lst,false⟩,0,1):=by unfold wM; rw [h7]; simp [hlz]
  rw [hc] at hst
  simp [zY,zX,uU,vX.nx,vX.good,vX.ends,uV,bU,xC,xB,gW,So.settled,So.get,So.put,So.to,fle,sF,uM,hlen,-qXq,g2,g3,g4,g5,g6,g7,g8,g9,g10,g11,g12,g13,g14,g15,g16,g17,g18,g19,g20,g21,g22,g23,g24,g25,g26,g27,g28,g29,g30,g31,r1,b1]
  exact ⟨fun e=>absurd e (by simp),fun _ _=>⟨by simp,by rw [hst]; rfl,by rw [hst]; rfl⟩,fun _ e=>absurd rfl e,fun e=>absurd e (by simp),fun _=>by rw [hst]; exact H.same rfl rfl rfl rfl,⟨fun e=>absurd e.1 (by simp),fun e=>by omega⟩,rfl⟩
 ·have e8':cls=1:=e8
  subst e8'
  have hc:wM ⟨c,lst,true⟩=(⟨c,lst,true⟩,0,3):=by unfold wM; rw [h7]; simp [hlz]
  rw [hc] at hst
  simp [zY,zX,uU,vX.nx,vX.good,vX.ends,uV,bU,xC,xB,gW,So.settled,So.get,So.put,So.to,fle,sF,uM,hlen,-qXq,g2,g3,g4,g5,g6,g7,g8,g9,g10,g11,g12,g13,g14,g15,g16,g17,g18,g19,g20,g21,g22,g23,g24,g25,g26,g27,g28,g29,g30,g31,r1,b1]
  refine ⟨fun e=>absurd e (by simp),fun _ _=>⟨by simp,by rw [hst]; rfl,?_⟩,fun _ e=>absurd rfl e,fun e=>absurd e (by simp),fun _=>by rw [hst]; exact H.same rfl rfl rfl rfl,⟨fun e=>absurd e.1 (by simp),fun e=>absurd e.1 (by simp)⟩,rfl⟩
  rw [hst]
  simp [wX,uM]
def qX4:Prop :=∀(f b:Int) (x:Ins) (a:So) (th:vA) (ch:bS),5≤x.op∧x.op≤9→Op4 x→(x.op=6∨x.op=8→x.r≠x.b)→Got a th ch→∃e fl,fC f b (bD f b ch.cap x) 40 a=some (e,fl)∧qLj (wJ x).toNat th ch x e fl
theorem qX1:qX4:=by
 intro f b x a th ch hx ho hne hg
 have h:x.op=5∨x.op=6∨x.op=7∨x.op=8∨x.op=9:=by omega
 rcases h with h | h | h | h | h
 ·have:=qS5 (f:=f) (b:=b) h ho hg; unfold wJ; simpa [h] using this
 ·have:=qS4 (f:=f) (b:=b) h ho hg (hne (.inl h)); unfold wJ; simpa [h] using this
 ·have:=qLt (f:=f) (b:=b) h ho hg; unfold wJ; simpa [h] using this
 ·have:=qLs (f:=f) (b:=b) h ho hg (hne (.inr h)); unfold wJ; simpa [h] using this
 ·have:=qPd (f:=f) (b:=b) h ho hg; unfold wJ; simpa [h] using this
theorem qL0 {caps:List Int} {b:List Ins} (hb:uI b caps.length=true) (hl:bW caps=true) {j k:Nat} :∀(n:Nat),n≤b.length→j<n→(k:Int)<wJ (b.getD j default)→
  (szB (b.take j)).toNat+k<(gS caps b n).length∧(gS caps b n).getD ((szB (b.take j)).toNat+k) default=(hY caps (b.getD j default) (szB (b.take j)) (yZ b)).getD k default
 | 0,_,h,_=>by omega
 | n+1,hn,hj,hk=>by
  have hs:=rP hb hl n (by omega)
  have he:=qG8 hb hl n (by omega) (szB (b.take n))
  by_cases hc:j<n
  ·obtain ⟨h1,h2⟩:=qL0 hb hl n (by omega) hc hk
   refine ⟨by simp only [gS,qY4]; omega,?_⟩
   rw [←h2,gS]
   simp only [qXq]
   rw [qY3 h1]
  ·obtain rfl:j=n:=by omega
   have h0:=(dZ b j).1
   refine ⟨by simp only [gS,qY4]; omega,?_⟩
   rw [gS,qXq,qXe (by omega),←qXq]
   congr 1
   omega
theorem qUz {caps:List Int} {b:List Ins} (hb:uI b caps.length=true) (hl:bW caps=true) {j k:Nat} (hj:j<b.length) (hk:(k:Int)<wJ (b.getD j default)) :
  (szB (b.take j)).toNat+k<(comp caps b).length∧(comp caps b).getD ((szB (b.take j)).toNat+k) default=(hY caps (b.getD j default) (szB (b.take j)) (yZ b)).getD k default :=
 qL0 hb hl b.length (qXn _) hj hk
theorem qT3 {caps:List Int} {b:List Ins} (hb:uI b caps.length=true) (hl:bW caps=true):((comp caps b).length:Int)=szB b:=by
 have:=rP hb hl b.length (qXn _)
 rw [qZq] at this
 exact this
theorem qH9 :∀(b:List Ins) (off k at_:Int) (i:Nat),i<b.length→off+szB (b.take i)≤at_→at_<off+szB (b.take (i+1))→jR b off k at_=(k+i,decide (at_=off+szB (b.take i)))
 | [],_,_,_,i,h,_,_=>by simp at h
 | x::l,off,k,at_,0,_,h1,h2=>by
  simp only [List.take_zero,szB,qZn] at h1 h2
  unfold jR
  rw [if_pos (by omega)]
  simp [szB]
 | x::l,off,k,at_,i+1,h,h1,h2=>by
  simp only [qZn,szB] at h1 h2
  have hl:=(qDj (l.take i)).1
  unfold jR
  rw [if_neg (by omega)]
  rw [qH9 l (off+wJ x) (k+1) at_ i (by simpa using h) (by omega) (by omega)]
  refine Prod.ext (by push_cast; omega) ?_
  simp only [qZn,szB]
  congr 1
  apply propext
  constructor<;>intro e<;>omega
theorem qMg {x:Ins} (h:1≤x.op∧x.op≤13):1≤wJ x:=by
 unfold wJ
 repeat' split
 all_goals (try omega)
 rw [qO.2 h]
 decide
theorem qMh {x:Ins} (h:1≤x.op∧x.op≤13) (hc :¬(5≤x.op∧x.op≤9)):wJ x=1:=by
 unfold wJ
 rw [if_neg (by omega),if_neg (by omega),if_neg (by omega),if_neg (by omega),if_neg (by omega),qO.2 h]
 rfl
theorem kA {x:Ins} (hc:5≤x.op∧x.op≤9):13≤wJ x:=by
 unfold wJ
 repeat' split
 all_goals (try omega)
theorem qN3 {b:List Ins} (hb :∀i,i<b.length→1≤wJ (b.getD i default)) :∀(i j:Nat),i<j→j≤b.length→szB (b.take i)<szB (b.take j)
 | i,0,h,_=>by omega
 | i,j+1,h,hj=>by
  have h1:=hb j (by omega)
  rw [fX b j (by omega)]
  by_cases e:i=j
  ·rw [e]; omega
  ·have:=qN3 hb i j (by omega) (by omega)
   omega
theorem qMt {caps:List Int} (hl:bW caps=true) {n:Nat} (h:n<caps.length):base caps n=aJ (caps.take n):=by
 unfold base
 have hw:qL (n:Int) 0 ((caps.length:Int)-1)=true:=by rw [qO]; omega
 rw [hl,hw]
 rfl
def bs (caps:List Int) (n:Nat):Nat:=(aJ (caps.take n)).toNat
def cp (caps:List Int) (n:Nat):Nat:=(caps.getD n 0).toNat
theorem cC {caps:List Int} (hl:bW caps=true) {n:Nat} (h:n<caps.length):base caps n=(bs caps n:Int)∧caps.getD n 0=(cp caps n:Int)∧1≤cp caps n∧cp caps n≤4∧bs caps n+cp caps n+4≤24:=by
 have e:=qMt hl h
 have hn :¬base caps n<0:=qO3 hl (by omega)
 obtain ⟨_,_,_,h1,h2,h3⟩:=aZ hn
 rw [qO,qZh] at h3
 rw [qZh] at h2
 unfold bs cp
 rw [←e]
 omega
theorem qIo {caps:List Int} (hl:bW caps=true) :∀{n k:Nat},n<k→k<caps.length→bs caps n+cp caps n+4≤bs caps k
 | n,0,h,_=>by omega
 | n,k+1,h,hk=>by
  have h1:=cC hl (n:=k) (by omega)
  have h2:=cC hl (n:=k+1) hk
  have h3:=tY caps k (by omega)
  rw [qMt hl hk] at h2
  rw [qMt hl (by omega)] at h1
  by_cases e:n=k
  ·subst e; omega
  ·have:=qIo hl (n:=n) (k:=k) (by omega) (by omega)
   omega
theorem So.put_dat (s:So) (r v:Int):(s.put r v).dat=s.dat∧(s.put r v).fst=s.fst∧(s.put r v).cnt=s.cnt∧(s.put r v).cls=s.cls∧(s.put r v).hold=s.hold∧(s.put r v).k=s.k:=by
 unfold So.put
 repeat' split
 all_goals exact ⟨rfl,rfl,rfl,rfl,rfl,rfl⟩
theorem qKa {f b:Int} {L:List yK} :∀{n:Nat} {a e:So} {fl:Bool},fC f b L n a=some (e,fl)→a.hold=false→e.fst=a.fst∧e.cnt=a.cnt∧e.cls=a.cls∧e.dat=a.dat∧e.hold=false
 | n,a,e,fl,h,hh=>by
  cases hs:a.settled L.length
  ·obtain ⟨_,m,rfl,h1 | h1⟩:=iJ h hs
   ·obtain ⟨s',h2,_,h3⟩:=h1
    have hk:s'.fst=a.fst∧s'.cnt=a.cnt∧s'.cls=a.cls∧s'.dat=a.dat∧s'.hold=false:=by
     unfold uV at h2
     have hp:=fun r v=>So.put_dat a r v
     repeat' split at h2
     all_goals (first
      | (exfalso; rename_i hc; exact hc hh)
      | (cases h2; done)
      | (cases h2; exact ⟨(hp _ _).2.1,(hp _ _).2.2.1,(hp _ _).2.2.2.1,(hp _ _).1,(hp _ _).2.2.2.2.1.trans hh⟩)
      | (cases h2; exact ⟨rfl,rfl,rfl,rfl,hh⟩))
    obtain ⟨k1,k2,k3,k4,k5⟩:=hk
    obtain ⟨g1,g2,g3,g4,g5⟩:=qKa h3 k5
    exact ⟨by rw [g1,k1],by rw [g2,k2],by rw [g3,k3],by rw [g4,k4],g5⟩
   ·obtain ⟨s',h2,h3,h4⟩:=h1
    simp only [Prod.mk.injEq] at h4
    obtain ⟨rfl,_⟩:=h4
    have:e=a:=by
     unfold uV at h2
     repeat' split at h2
     all_goals (first | exact absurd h2 pU | (cases h2; done) | (cases h2; rfl))
    subst this
    exact ⟨rfl,rfl,rfl,rfl,hh⟩
  ·rw [uU hs] at h
   simp only [Option.some.injEq,Prod.mk.injEq] at h
   obtain ⟨rfl,_⟩:=h
   exact ⟨rfl,rfl,rfl,rfl,hh⟩
theorem qK9 {f b:Int} {L:List yK} :∀{n:Nat} {a:So} {r:So×Bool},fC f b L n a=some r→fC f b L (n+1) a=some r
 | n,a,r,h=>by
  cases hs:a.settled L.length
  ·obtain ⟨hk,m,rfl,h1 | h1⟩:=iJ h hs
   ·obtain ⟨s',h2,h4,h3⟩:=h1
    exact qLu hs hk h2 h4 (qK9 h3)
   ·obtain ⟨s',h2,h3,rfl⟩:=h1
    exact qDq hs hk h2 h3
  ·rw [uU hs] at h⊢
   exact h
theorem qVg {f b:Int} {L:List yK} {n m:Nat} {a:So} {r:So×Bool} (h:fC f b L n a=some r) (hm:n≤m):fC f b L m a=some r:=by
 obtain ⟨d,rfl⟩:=Nat.le.dest hm
 clear hm
 induction d with
 | zero=>exact h
 | succ d ih=>exact qK9 ih
theorem qDr {f b:Int} {L:List yK} :∀{n:Nat} {a:So} {r:So×Bool},fC f b L n a=some r→fC f b L (L.length-a.k) a=some r
 | n,a,r,h=>by
  cases hs:a.settled L.length
  ·obtain ⟨hk,m,rfl,h1 | h1⟩:=iJ h hs
   ·obtain ⟨s',h2,h4,h3⟩:=h1
    obtain ⟨d,hd⟩ :∃d,L.length-a.k=d+1:=⟨L.length-a.k-1,by omega⟩
    rw [hd]
    refine qLu hs hk h2 h4 ?_
    rcases h4 with h4 | ⟨h4,h5⟩
    ·exact qVg (qDr h3) (by omega)
    ·have hse:s'.settled L.length=true:=by simp [So.settled,h4,h5]
     rw [uU hse] at h3⊢
     exact h3
   ·obtain ⟨s',h2,h3,rfl⟩:=h1
    obtain ⟨d,hd⟩ :∃d,L.length-a.k=d+1:=⟨L.length-a.k-1,by omega⟩
    rw [hd]
    exact qDq hs hk h2 h3
  ·rw [uU hs] at h⊢
   exact h
theorem qTq {f b:Int} {t:yK} {a s':So} (h:uV f b t a=.go s'):t.op≠8∧t.op≠9:=by
 refine ⟨fun e=>?_,fun e=>?_⟩<;>(unfold uV bU at h; rw [e] at h; simp at h)
theorem qPe {f b:Int} {t:yK} {a s':So} (h:uV f b t a=.stop s'):t.op=13∧s'=a:=by
 unfold uV at h
 repeat' split at h
 all_goals (first | exact absurd h pU | (cases h; done) | (rename_i h13; cases h; exact ⟨h13,rfl⟩))
theorem qNa {b:Int} {t:yK} {a s':So} (h:bU b t a=.go s'):s'.dat.length=a.dat.length:=by
 unfold bU xC xB gW at h
 have hp:=fun r v=>(So.put_dat a r v).1
 repeat' split at h
 all_goals (first
  | (cases h; done)
  | (cases h; rfl)
  | (cases h; exact congrArg List.length (hp _ _))
  | (cases h; exact qZ5))
theorem qS6 {f b:Int} {t:yK} {a s':So} (h:uV f b t a=.go s'):s'.dat.length=a.dat.length:=by
 unfold uV at h
 have hp:=fun r v=>(So.put_dat a r v).1
 repeat' split at h
 all_goals (first
  | exact qNa h
  | (cases h; done)
  | (cases h; rfl)
  | (cases h; exact congrArg List.length (hp _ _)))
structure rV (K:bZ) (f:Int) (s:So):Prop where
 at_:K.at_=f+s.k
 regs:K.regs=s.low++[s.t4,s.t5,s.t6,s.t7]
 low:s.low.length=4
 st:K.st=0
theorem rV.get {K:bZ} {f:Int} {s:So} (h:rV K f s) {r:Int} (h0:0≤r) (h1:r≤7):rg K r=s.get r:=by
 unfold rg So.get
 rw [h.regs]
 obtain ⟨n,rfl⟩:=qZl h0
 simp only [qZh]
 have hl:=h.low
 by_cases hn:n<4
 ·rw [if_pos (by omega)]
  simp [qXq,qY3 (show n<s.low.length by omega)]
 ·rw [if_neg (by omega)]
  rw [qXq,qXe (by omega),hl]
  have:n=4∨n=5∨n=6∨n=7:=by omega
  rcases this with rfl | rfl | rfl | rfl<;>simp
theorem rV.put {K:bZ} {f:Int} {s:So} (h:rV K f s) {r v:Int} (h0:0≤r) (h1:r≤7) (a:Int) (vw:List Int) (k:Nat) (ha:a=f+k):rV ⟨a,K.regs.set r.toNat v,vw,K.st⟩ f ((s.put r v).to k):=by
 obtain ⟨n,rfl⟩:=qZl h0
 have hl:=h.low
 have hr:=h.regs
 refine ⟨by simpa [So.to] using ha,?_,?_,h.st⟩
 ·rw [hr]
  simp only [qZh,So.put,So.to]
  by_cases hn:n<4
  ·rw [if_pos (by omega)]
   simp only
   rw [List.set_append_left _ _ (by omega)]
  ·rw [if_neg (by omega),List.set_append_right _ _ (by omega),hl]
   have:n=4∨n=5∨n=6∨n=7:=by omega
   rcases this with rfl | rfl | rfl | rfl<;>simp
 ·simp only [So.put,So.to]
  repeat' split
  all_goals simp [hl]
theorem rV.move {K:bZ} {f:Int} {s:So} (h:rV K f s) (a:Int) (vw:List Int) (k:Nat) (ha:a=f+k):rV ⟨a,K.regs,vw,K.st⟩ f (s.to k) :=
 ⟨by simpa [So.to] using ha,h.regs,h.low,h.st⟩
structure qEz (cs:List (List wY)) (b:Nat) (s:So):Prop where
 fst:jD cs (b+1)=s.fst
 cnt:jD cs (b+2)=s.cnt
 cls:jD cs (b+3)=s.cls
 dat :∀j:Nat,j<s.dat.length→jD cs (b+4+j)=s.dat.getD j 0
def nW (cs:List (List wY)) (b n:Nat) (v:List Int):Prop :=∀j:Nat,1≤j→j<n+4→v.getD (b+j) 0=((cs.getD (b+j) []).length:Int)-1
theorem lU {m:qY} {i:Nat} (hi:i<m.cores.length):aM m i=if (qJ m i).st≠0∨((wD m i).op=9∧(m.tr.length:Int)=4000) then 3
  else if jK (wD m i).op&&!decide ((wD m i).op=5)&&qL (wN (qJ m i) (wD m i)) 0 23&&decide ((4000:Int)≤(m.mem.cells.getD (wN (qJ m i) (wD m i)).toNat []).length) then 3 else 0:=by
 have hw:qL (i:Int) 0 ((m.cores.length:Int)-1)=true:=by rw [qO]; omega
 unfold aM
 rw [if_pos hw]
 rfl
theorem qEc {m:qY} {i:Nat} (hi:i<m.cores.length) (hst:(qJ m i).st=0) (h9:(wD m i).op≠9) (hm:jK (wD m i).op=false):aM m i=0:=by
 rw [lU hi,if_neg (by rw [hst]; simp [h9]),hm]
 simp
theorem qEb {m:qY} {i:Nat} (hi:i<m.cores.length) (hst:(qJ m i).st=0) (hm:jK (wD m i).op=true) :
  aM m i=3∨(aM m i=0∧((wD m i).op≠5→qL (wN (qJ m i) (wD m i)) 0 23=true→(m.mem.cells.getD (wN (qJ m i) (wD m i)).toNat []).length<4000)):=by
 have h9:(wD m i).op≠9:=by intro e; rw [e] at hm; exact absurd hm (by decide)
 rw [lU hi,if_neg (by rw [hst]; simp [h9]),hm]
 by_cases h5:(wD m i).op=5
 ·right
  rw [h5]
  simp
 ·cases hc:qL (wN (qJ m i) (wD m i)) 0 23
  ·right
   simp
  ·by_cases hf:(4000:Int)≤(m.mem.cells.getD (wN (qJ m i) (wD m i)).toNat []).length
   ·left
    simp [h5,hf,-qXq]
   ·right
    refine ⟨by simp [h5,hf,-qXq],fun _ _=>by omega⟩
theorem mM {m:qY} {i:Nat} {late:Int} (h:aM m i=3):yG m ⟨i,late⟩=(m,3):=by
 unfold yG
 simp only
 rw [h,if_neg (by decide)]
theorem sY {m:qY} {i:Nat} {late:Int} (h:aM m i=0):yG m ⟨i,late⟩=(mdo m i late,0):=by
 unfold yG
 simp only
 rw [h,if_pos rfl,qZh]
theorem iK (m:qY) (i j:Nat) (k:bZ) (h:j≠i):qJ (jL m i k) j=qJ m j:=by
 unfold qJ jL
 simp [qXq,List.getElem?_set,show¬i=j from fun e=>h e.symm]
theorem kH {m:qY} {i:Nat} {late:Int} (hi:i<m.cores.length) (hst:(qJ m i).st=0) (h9:(wD m i).op≠9) (h12:(wD m i).op≠12) (h13:(wD m i).op≠13) (hm:jK (wD m i).op=false)
  (hn:uR (qJ m i) (wD m i)<((m.codes.getD i []).length:Int)) :
  yG m ⟨i,late⟩=(jL m i {alu (qJ m i) (wD m i) with at_:=uR (qJ m i) (wD m i)},0):=by
 rw [sY (qEc hi hst h9 hm)]
 unfold mdo
 simp only
 rw [if_neg h12,if_neg h13,hm,if_neg (by decide),if_neg h9]
 unfold fH
 rw [if_neg (by omega)]
theorem qNs {m:qY} {i:Nat} {late:Int} (hi:i<m.cores.length) (hst:(qJ m i).st=0) (h13:(wD m i).op=13):yG m ⟨i,late⟩=(jL m i {qJ m i with st:=2},0):=by
 rw [sY (qEc hi hst (by omega) (by rw [h13]; decide))]
 unfold mdo stop
 simp only
 rw [if_neg (by omega),if_pos h13]
theorem qSq {cs:List (List wY)} {view:List Int} {c:Nat} {late:Int} (hm:lR cs) (hv:VOk cs view) (hc:c<24) (h:view.getD c 0=((cs.getD c []).length:Int)-1):load cs view c late false=(jD cs c,view):=by
 have h1:=(hm.cell c hc).1
 have e:max (((cs.getD c []).length:Int)-1-max late 0) (view.getD c 0)=((cs.getD c []).length:Int)-1:=by omega
 unfold load
 simp only
 rw [e]
 refine Prod.ext ?_ ?_
 ·rw [if_neg (by decide)]
  show ((cs.getD c []).getD (((cs.getD c []).length:Int)-1).toNat default).v=jD cs c
  unfold jD
  congr 2
  omega
 ·rw [if_neg (by decide),←h]
  exact wR _ _ _ (by rw [hv.1]; exact hc)
theorem zC {cs:List (List wY)} {c:Nat} (w:wY) (hc:c<cs.length) (d:Nat):jD (cs.set c (cs.getD c []++[w])) d=if d=c then w.v else jD cs d:=by
 unfold jD
 rw [gR _ _ _ _ _ hc]
 split
 ·simp [qXq]
 ·rfl
structure qDg (m m':qY) (i:Nat) (f:Int) (b:Nat) (s s':So):Prop where
 tr:m'.tr=m.tr
 codes:m'.codes=m.codes
 len:m'.cores.length=m.cores.length
 other :∀j,j≠i→qJ m' j=qJ m j
 core:rV (qJ m' i) f s'
 dat:s'.dat.length=s.dat.length
 held:s'.hold=true→s.hold=true∧qEz m'.mem.cells b s'∧nW m'.mem.cells b s.dat.length (qJ m' i).view∧m'.mem.cells.getD b []=m.mem.cells.getD b []
 out :∀c,¬(b≤c∧c<b+4+s.dat.length)→m'.mem.cells.getD c []=m.mem.cells.getD c []
 none:s.hold=false→m'.mem=m.mem
 free:s.hold=true→s'.hold=false→jD m'.mem.cells b=0∧qEz m'.mem.cells b s'∧nW m'.mem.cells b s.dat.length ((m'.mem.cells.getD b []).getD ((m'.mem.cells.getD b []).length-1) default).view
theorem oQ (m:qY) (i:Nat) (k:bZ):(jL m i k).cores.length=m.cores.length:=by simp [jL]
theorem bO (m:qY) (i:Nat) (k:bZ) (h:i<m.cores.length):qJ (jL m i k) i=k:=by rw [qR6 m i i k h,if_pos rfl]
theorem qIx {m:qY} {i:Nat} {f:Int} {b:Nat} {s s':So} (hi:i<m.cores.length) {K':bZ} (hK:rV K' f s') (hv:K'.view=(qJ m i).view) (h1:s'.dat=s.dat) (h2:s'.fst=s.fst) (h3:s'.cnt=s.cnt) (h4:s'.cls=s.cls) (h5:s'.hold=s.hold)
  (hd:s.hold=true→qEz m.mem.cells b s∧nW m.mem.cells b s.dat.length (qJ m i).view):qDg m (jL m i K') i f b s s' where
 tr:=rfl
 codes:=rfl
 len:=oQ _ _ _
 other:=fun j hj=>iK m i j K' hj
 core:=by rw [bO m i K' hi]; exact hK
 dat:=by rw [h1]
 held:=fun h=>by
  rw [h5] at h
  obtain ⟨a,c⟩:=hd h
  rw [bO m i K' hi,hv]
  exact ⟨h,⟨by rw [h2]; exact a.fst,by rw [h3]; exact a.cnt,by rw [h4]; exact a.cls,by rw [h1]; exact a.dat⟩,c,rfl⟩
 out:=fun c _=>rfl
 none:=fun _=>rfl
 free:=fun h h'=>by rw [h5,h] at h'; exact absurd h' (by decide)
theorem qMq {m:qY} {i:Nat} {f:Int} {b:Nat} {s s':So} (hM:MOk m) (hi:i<m.cores.length) (hc:rV (qJ m i) f s)
  (hd:s.hold=true→qEz m.mem.cells b s∧nW m.mem.cells b s.dat.length (qJ m i).view) (ht:uV f b (wD m i) s=.go s') (hn:f+s'.k<((m.codes.getD i []).length:Int)) (hf:0≤f)
  (hop:(wD m i).op≤4∨(wD m i).op=10∨(wD m i).op=11) :∃m',(∀late,yG m ⟨i,late⟩=(m',0))∧qDg m m' i f b s s':=by
 obtain ⟨r0,r1,b0,b1,o0,o1,ha⟩:=dE (eF hM hi)
 have ga:0≤(wD m i).a∧(wD m i).a≤7:=by omega
 have hm:jK (wD m i).op=false:=by
  unfold jK
  have h5 :¬(wD m i).op=5:=by omega
  have h6 :¬(wD m i).op=6:=by omega
  have h7 :¬(wD m i).op=7:=by omega
  have h8 :¬(wD m i).op=8:=by omega
  simp [h5,h6,h7,h8]
 have ea:=hc.get ga.1 ga.2
 have eb:=hc.get b0 b1
 have hat:=hc.at_
 have hst:=hc.st
 have hloc:=fun (late:Int)=>@kH m i late hi hst (by omega) (by omega) (by omega) hm
 generalize wD m i=t at *
 have key :∀K':bZ,K' = {alu (qJ m i) t with at_:=uR (qJ m i) t}→rV K' f s'→K'.view=(qJ m i).view→s'.dat=s.dat→s'.fst=s.fst→s'.cnt=s.cnt→s'.cls=s.cls→s'.hold=s.hold→∃m',(∀late,yG m ⟨i,late⟩=(m',0))∧qDg m m' i f b s s':=by
  intro K' hK h0 h6 h1 h2 h3 h4 h5
  refine ⟨jL m i K',fun late=>?_,qIx hi h0 h6 h1 h2 h3 h4 h5 hd⟩
  rw [hloc late,←hK]
  have:=h0.at_
  rw [hK] at this
  simp only at this
  rw [this]
  exact hn
 have hkey :∀(r v:Int),0≤r→r≤7→s'=(s.put r v).to (s.k+1)→{alu (qJ m i) t with at_:=uR (qJ m i) t}=(⟨(qJ m i).at_+1,(qJ m i).regs.set r.toNat v,(qJ m i).view,(qJ m i).st⟩:bZ)→∃m',(∀late,yG m ⟨i,late⟩=(m',0))∧qDg m m' i f b s s':=by
  intro r v h0 h1 hs hK
  subst hs
  obtain ⟨p1,p2,p3,p4,p5,p6⟩:=So.put_dat s r v
  exact key _ rfl (by rw [hK]; exact hc.put h0 h1 _ _ _ (by rw [hat]; push_cast; omega)) (by rw [hK]) p1 p2 p3 p4 p5
 have hcase:t.op=1∨t.op=2∨t.op=3∨t.op=4∨t.op=10∨t.op=11:=by omega
 rcases hcase with ho | ho | ho | ho | ho | ho
 ·simp only [uV,ho,if_pos,vX.go.injEq] at ht
  refine hkey t.r t.n r0 r1 ht.symm ?_
  simp [alu,uR,oB,ho]
 ·simp [uV,ho] at ht
  refine hkey t.r _ r0 r1 ht.symm ?_
  simp [alu,uR,oB,ho,ea,eb]
 ·simp [uV,ho] at ht
  refine hkey t.r _ r0 r1 ht.symm ?_
  simp [alu,uR,oB,ho,ea,eb]
 ·simp [uV,ho] at ht
  refine hkey t.r _ r0 r1 ht.symm ?_
  simp [alu,uR,oB,ho,ea,eb]
 ·simp [uV,ho] at ht
  split at ht
  case isFalse=>exact absurd ht (by simp)
  rename_i hg
  simp only [vX.go.injEq] at ht
  subst ht
  refine key _ rfl ?_ ?_ rfl rfl rfl rfl rfl
  ·have:({alu (qJ m i) t with at_:=uR (qJ m i) t}:bZ)=⟨t.n,(qJ m i).regs,(qJ m i).view,(qJ m i).st⟩:=by simp [alu,uR,ho]
   rw [this]
   exact hc.move _ _ _ (by omega)
  ·simp [alu,ho]
 ·simp [uV,ho] at ht
  split at ht
  case isFalse=>exact absurd ht (by simp)
  rename_i hg
  simp only [vX.go.injEq] at ht
  subst ht
  refine key _ rfl ?_ ?_ rfl rfl rfl rfl rfl
  ·have:({alu (qJ m i) t with at_:=uR (qJ m i) t}:bZ)=⟨if s.get t.a=0 then t.n else (qJ m i).at_+1,(qJ m i).regs,(qJ m i).view,(qJ m i).st⟩:=by simp [alu,uR,ho,ea]
   rw [this]
   refine hc.move _ _ _ ?_
   split<;>omega
  ·simp [alu,ho]
theorem qGl (cs:List (List wY)) (view:List Int) (cell:Nat) (v:Int) (go:Bool):store cs view cell v go=(cs.set cell (cs.getD cell []++[⟨v,if go then view.set cell ((cs.getD cell []).length:Int) else (qXi 24 0).set cell ((cs.getD cell []).length:Int)⟩]),view.set cell ((cs.getD cell []).length:Int)):=rfl
theorem qA5 {m:qY} {i:Nat} {late:Int} {c:Nat} (h0:aM m i=0) (hm:jK (wD m i).op=true) (hcell:wN (qJ m i) (wD m i)=c) (hc:c<24) (hn:(qJ m i).at_+1<((m.codes.getD i []).length:Int)) :
  yG m ⟨i,late⟩=(jL {m with mem:=⟨(jN m.mem.cells (qJ m i) (wD m i) c late).1⟩} i {(jN m.mem.cells (qJ m i) (wD m i) c late).2 with at_:=(qJ m i).at_+1},0):=by
 have h12:(wD m i).op≠12:=by intro e; rw [e] at hm; exact absurd hm (by decide)
 have h13:(wD m i).op≠13:=by intro e; rw [e] at hm; exact absurd hm (by decide)
 rw [sY h0]
 unfold mdo
 simp only
 rw [if_neg h12,if_neg h13,hm,if_pos rfl,hcell]
 have hw:qL (c:Int) 0 23=true:=by rw [qO]; omega
 rw [hw,if_pos rfl,qZh]
 unfold fH
 simp only
 rw [if_neg (by omega)]
theorem qOy {m:qY} {i:Nat} {f:Int} {b:Nat} {s:So} {c:Nat} {v:Int} (hM:MOk m) (hi:i<m.cores.length) (hc:rV (qJ m i) f s)
  (hd:qEz m.mem.cells b s∧nW m.mem.cells b s.dat.length (qJ m i).view) (ho:(wD m i).op=5) (hcell:wN (qJ m i) (wD m i)=c) (h1:b+1≤c) (h2:c<b+4+s.dat.length) (h24:b+4+s.dat.length≤24) (hv:jD m.mem.cells c=v)
  (hn:f+(s.k+1)<((m.codes.getD i []).length:Int)) :∃m',(∀late,yG m ⟨i,late⟩=(m',0))∧qDg m m' i f b s ((s.put (wD m i).r v).to (s.k+1)):=by
 obtain ⟨r0,r1,_⟩:=dE (eF hM hi)
 have hm:jK (wD m i).op=true:=by rw [ho]; rfl
 have hat:=hc.at_
 have hK:=hM.core i hi
 have h0:aM m i=0:=by
  rw [lU hi,if_neg (by rw [hc.st]; simp [ho]),ho]
  simp
 have hcv:(qJ m i).view.getD c 0=((m.mem.cells.getD c []).length:Int)-1:=by
  have:=hd.2 (c-b) (by omega) (by omega)
  rw [show b+(c-b)=c by omega] at this
  exact this
 have hac :∀late,jN m.mem.cells (qJ m i) (wD m i) c late=(m.mem.cells,⟨(qJ m i).at_,(qJ m i).regs.set (wD m i).r.toNat v,(qJ m i).view,(qJ m i).st⟩):=by
  intro late
  unfold jN
  rw [if_pos ho]
  simp only
  rw [qSq hM.mem hK.view (by omega) hcv,hv]
 obtain ⟨p1,p2,p3,p4,p5,p6⟩:=So.put_dat s (wD m i).r v
 refine ⟨jL m i ⟨(qJ m i).at_+1,(qJ m i).regs.set (wD m i).r.toNat v,(qJ m i).view,(qJ m i).st⟩,fun late=>?_,?_⟩
 ·rw [qA5 h0 hm hcell (by omega) (by omega),hac late]
 ·exact qIx hi (hc.put r0 r1 _ _ _ (by rw [hat]; push_cast; omega)) rfl p1 p2 p3 p4 p5 (fun _=>hd)
theorem fP {cs:List (List wY)} {c d:Nat} (x:List wY) (hc:c<cs.length):(cs.set c x).getD d []=if d=c then x else cs.getD d []:=gR _ _ _ _ _ hc
theorem qMp {m:qY} {i:Nat} {f:Int} {b:Nat} {s s':So} {c:Nat} (hM:MOk m) (hi:i<m.cores.length) (hc:rV (qJ m i) f s) (hh:s.hold=true)
  (hd:qEz m.mem.cells b s∧nW m.mem.cells b s.dat.length (qJ m i).view) (ho:(wD m i).op=6) (hcell:wN (qJ m i) (wD m i)=c) (h1:b+1≤c) (h2:c<b+4+s.dat.length) (h24:b+4+s.dat.length≤24)
  (hn:f+(s.k+1)<((m.codes.getD i []).length:Int)) (hlow:s'.low=s.low∧s'.t4=s.t4∧s'.t5=s.t5∧s'.t6=s.t6∧s'.t7=s.t7∧s'.k=s.k+1∧s'.hold=true) (hdl:s'.dat.length=s.dat.length)
  (hf:s'.fst=if c=b+1 then s.get (wD m i).b else s.fst) (hct:s'.cnt=if c=b+2 then s.get (wD m i).b else s.cnt) (hcl:s'.cls=if c=b+3 then s.get (wD m i).b else s.cls)
  (hdt :∀j:Nat,j<s.dat.length→s'.dat.getD j 0=if c=b+4+j then s.get (wD m i).b else s.dat.getD j 0) :
  (∀late,yG m ⟨i,late⟩=(m,3))∨∃m',(∀late,yG m ⟨i,late⟩=(m',0))∧qDg m m' i f b s s':=by
 obtain ⟨r0,r1,b0,b1,_⟩:=dE (eF hM hi)
 have hm:jK (wD m i).op=true:=by rw [ho]; rfl
 have hat:=hc.at_
 have hK:=hM.core i hi
 have hlen:=hM.mem.len
 rcases qEb hi hc.st hm with h3 | ⟨h0,hroom⟩
 ·exact .inl fun late=>mM h3
 right
 have hvb:=hc.get b0 b1
 have hac :∀late,jN m.mem.cells (qJ m i) (wD m i) c late=(m.mem.cells.set c (m.mem.cells.getD c []++[⟨s.get (wD m i).b,(qXi 24 0).set c ((m.mem.cells.getD c []).length:Int)⟩]),{qJ m i with view:=(qJ m i).view.set c ((m.mem.cells.getD c []).length:Int)}):=by
  intro late
  unfold jN
  rw [if_neg (by omega),if_neg (by omega)]
  simp only
  rw [qGl,hvb,ho]
  rfl
 have hcl24:c<m.mem.cells.length:=by omega
 refine ⟨jL {m with mem:=⟨m.mem.cells.set c (m.mem.cells.getD c []++[⟨s.get (wD m i).b,(qXi 24 0).set c ((m.mem.cells.getD c []).length:Int)⟩])⟩} i ⟨(qJ m i).at_+1,(qJ m i).regs,(qJ m i).view.set c ((m.mem.cells.getD c []).length:Int),(qJ m i).st⟩,fun late=>?_,?_⟩
 ·rw [qA5 h0 hm hcell (by omega) (by omega),hac late]
 obtain ⟨l1,l2,l3,l4,l5,l6,l7⟩:=hlow
 have hvl:(qJ m i).view.length=24:=hK.view.1
 have hself:=bO {m with mem:=⟨m.mem.cells.set c (m.mem.cells.getD c []++[⟨s.get (wD m i).b,(qXi 24 0).set c ((m.mem.cells.getD c []).length:Int)⟩])⟩} i ⟨(qJ m i).at_+1,(qJ m i).regs,(qJ m i).view.set c ((m.mem.cells.getD c []).length:Int),(qJ m i).st⟩ hi
 refine ⟨rfl,rfl,oQ _ _ _,fun j hj=>by rw [iK _ _ _ _ hj]; rfl,?_,hdl,?_,?_,?_,?_⟩
 ·rw [hself]
  exact ⟨by rw [l6,hat]; push_cast; omega,by rw [l1,l2,l3,l4,l5]; exact hc.regs,by rw [l1]; exact hc.low,hc.st⟩
 ·intro _
  refine ⟨hh,?_,?_,?_⟩
  ·obtain ⟨d1,d2,d3,d4⟩:=hd.1
   refine ⟨?_,?_,?_,fun j hj=>?_⟩
   ·show jD (m.mem.cells.set c _) (b+1)=_
    rw [zC _ hcl24,hf,d1]
    simp only [eq_comm]
   ·show jD (m.mem.cells.set c _) (b+2)=_
    rw [zC _ hcl24,hct,d2]
    simp only [eq_comm]
   ·show jD (m.mem.cells.set c _) (b+3)=_
    rw [zC _ hcl24,hcl,d3]
    simp only [eq_comm]
   ·show jD (m.mem.cells.set c _) (b+4+j)=_
    rw [zC _ hcl24,hdt j (by omega),d4 j (by omega)]
    simp only [eq_comm]
  ·rw [hself]
   intro j hj1 hj2
   show ((qJ m i).view.set c _).getD (b+j) 0=(((m.mem.cells.set c _).getD (b+j) []).length:Int)-1
   rw [gR _ _ _ _ _ (by omega),fP _ hcl24]
   by_cases e:b+j=c
   ·rw [if_pos e,if_pos e]
    simp
   ·rw [if_neg e,if_neg e]
    exact hd.2 j hj1 hj2
  ·show (m.mem.cells.set c _).getD b []=_
   rw [fP _ hcl24,if_neg (by omega)]
 ·intro d hd'
  show (m.mem.cells.set c _).getD d []=_
  rw [fP _ hcl24,if_neg (by omega)]
 ·intro h
  rw [hh] at h
  exact absurd h (by decide)
 ·intro _ h
  rw [l7] at h
  exact absurd h (by decide)
theorem qQg {m:qY} {i:Nat} {f:Int} {b:Nat} {s s':So} (hM:MOk m) (hi:i<m.cores.length) (hc:rV (qJ m i) f s) (hh:s.hold=true)
  (hd:qEz m.mem.cells b s∧nW m.mem.cells b s.dat.length (qJ m i).view) (ho:(wD m i).op=7) (hcell:wN (qJ m i) (wD m i)=b) (h24:b+4+s.dat.length≤24) (hz:s.get (wD m i).b=0)
  (hn:f+(s.k+1)<((m.codes.getD i []).length:Int)) (hs:s' = {s with hold:=false}.to (s.k+1)) :
  (∀late,yG m ⟨i,late⟩=(m,3))∨∃m',(∀late,yG m ⟨i,late⟩=(m',0))∧qDg m m' i f b s s':=by
 obtain ⟨r0,r1,b0,b1,_⟩:=dE (eF hM hi)
 have hm:jK (wD m i).op=true:=by rw [ho]; rfl
 have hat:=hc.at_
 have hK:=hM.core i hi
 have hlen:=hM.mem.len
 rcases qEb hi hc.st hm with h3 | ⟨h0,hroom⟩
 ·exact .inl fun late=>mM h3
 right
 have hvb:=hc.get b0 b1
 rw [hz] at hvb
 have hac :∀late,jN m.mem.cells (qJ m i) (wD m i) b late=(m.mem.cells.set b (m.mem.cells.getD b []++[⟨0,(qJ m i).view.set b ((m.mem.cells.getD b []).length:Int)⟩]),{qJ m i with view:=(qJ m i).view.set b ((m.mem.cells.getD b []).length:Int)}):=by
  intro late
  unfold jN
  rw [if_neg (by omega),if_neg (by omega)]
  simp only
  rw [qGl,hvb,ho]
  rfl
 have hcl24:b<m.mem.cells.length:=by omega
 refine ⟨jL {m with mem:=⟨m.mem.cells.set b (m.mem.cells.getD b []++[⟨0,(qJ m i).view.set b ((m.mem.cells.getD b []).length:Int)⟩])⟩} i ⟨(qJ m i).at_+1,(qJ m i).regs,(qJ m i).view.set b ((m.mem.cells.getD b []).length:Int),(qJ m i).st⟩,fun late=>?_,?_⟩
 ·rw [qA5 h0 hm hcell (by omega) (by omega),hac late]
 subst hs
 have hvl:(qJ m i).view.length=24:=hK.view.1
 have hself:=bO {m with mem:=⟨m.mem.cells.set b (m.mem.cells.getD b []++[⟨0,(qJ m i).view.set b ((m.mem.cells.getD b []).length:Int)⟩])⟩} i ⟨(qJ m i).at_+1,(qJ m i).regs,(qJ m i).view.set b ((m.mem.cells.getD b []).length:Int),(qJ m i).st⟩ hi
 refine ⟨rfl,rfl,oQ _ _ _,fun j hj=>by rw [iK _ _ _ _ hj]; rfl,?_,rfl,?_,?_,?_,?_⟩
 ·rw [hself]
  exact ⟨by rw [hat]; simp only [So.to]; push_cast; omega,hc.regs,hc.low,hc.st⟩
 ·intro h
  exact absurd h (by simp [So.to])
 ·intro d hd'
  show (m.mem.cells.set b _).getD d []=_
  rw [fP _ hcl24,if_neg (by omega)]
 ·intro h
  rw [hh] at h
  exact absurd h (by decide)
 ·intro _ _
  refine ⟨?_,?_,?_⟩
  ·show jD (m.mem.cells.set b _) b=0
   rw [zC _ hcl24,if_pos rfl]
  ·obtain ⟨d1,d2,d3,d4⟩:=hd.1
   refine ⟨?_,?_,?_,fun j hj=>?_⟩
   ·show jD (m.mem.cells.set b _) (b+1)=_
    rw [zC _ hcl24,if_neg (by omega),d1]
    rfl
   ·show jD (m.mem.cells.set b _) (b+2)=_
    rw [zC _ hcl24,if_neg (by omega),d2]
    rfl
   ·show jD (m.mem.cells.set b _) (b+3)=_
    rw [zC _ hcl24,if_neg (by omega),d3]
    rfl
   ·show jD (m.mem.cells.set b _) (b+4+j)=_
    rw [zC _ hcl24,if_neg (by omega)]
    exact d4 j hj
  ·show nW (m.mem.cells.set b _) b _ ((((m.mem.cells.set b _).getD b []).getD (((m.mem.cells.set b _).getD b []).length-1) default).view)
   rw [fP _ hcl24,if_pos rfl]
   have e:((m.mem.cells.getD b []++[(⟨0,(qJ m i).view.set b ((m.mem.cells.getD b []).length:Int)⟩:wY)]).getD ((m.mem.cells.getD b []++[(⟨0,(qJ m i).view.set b ((m.mem.cells.getD b []).length:Int)⟩:wY)]).length-1) default)=⟨0,(qJ m i).view.set b ((m.mem.cells.getD b []).length:Int)⟩:=by simp [qXq]
   rw [e]
   intro j hj1 hj2
   rw [gR _ _ _ _ _ (by omega),if_neg (by omega),fP _ hcl24,if_neg (by omega)]
   exact hd.2 j hj1 hj2
theorem qQd {K:bZ} {t:yK} (ha:t.a=-1):wN K t=t.n:=by
 unfold wN
 rw [if_neg (by omega)]
theorem qQc {K:bZ} {t:yK} (h8:t.op≠8) (ha:0≤t.a) (h0:0≤t.n+rg K t.a) (h1:t.n+rg K t.a<2^63):wN K t=t.n+rg K t.a:=by
 unfold wN
 rw [if_pos ⟨h8,ha⟩]
 exact wK (by omega) h1
theorem qWt {m:qY} {i:Nat} {f:Int} {b:Nat} {s s':So} (hM:MOk m) (hi:i<m.cores.length) (hc:rV (qJ m i) f s)
  (hd:s.hold=true→qEz m.mem.cells b s∧nW m.mem.cells b s.dat.length (qJ m i).view) (h24:b+4+s.dat.length≤24) (ht:uV f b (wD m i) s=.go s') (hn:f+s'.k<((m.codes.getD i []).length:Int)) (hf:0≤f) :
  (∀late,yG m ⟨i,late⟩=(m,3))∨∃m',(∀late,yG m ⟨i,late⟩=(m',0))∧qDg m m' i f b s s':=by
 obtain ⟨r0,r1,b0,b1,o0,o1,ha⟩:=dE (eF hM hi)
 by_cases hop:(wD m i).op≤4∨(wD m i).op=10∨(wD m i).op=11
 ·exact .inr (qMq hM hi hc hd ht hn hf hop)
 have hga:=fun h=>hc.get (r:=(wD m i).a) h (by omega)
 have hlo:=@qOy m i f b s
 have hso:=@qMp m i f b s s'
 have hle:=@qQg m i f b s s'
 have hcr:=@qQc (qJ m i) (wD m i)
 have hca:=@qQd (qJ m i) (wD m i)
 unfold uV at ht
 rw [if_neg (by omega),if_neg (by omega),if_neg (by omega),if_neg (by omega),if_neg (by omega),if_neg (by omega)] at ht
 split at ht
 ·exact absurd ht (by simp)
 split at ht
 ·exact absurd ht (by simp)
 rename_i h13 hh
 have hh:s.hold=true:=by simpa using hh
 have hd:=hd hh
 unfold bU at ht
 split at ht
 ·rename_i h5
  unfold xC at ht
  split at ht
  ·rename_i h1
   have hcell:=hca h1
   have go :∀(c:Nat) (v:Int),(wD m i).n=c→b+1≤c→c<b+4+s.dat.length→jD m.mem.cells c=v→s'=(s.put (wD m i).r v).to (s.k+1)→(∀late,yG m ⟨i,late⟩=(m,3))∨∃m',(∀late,yG m ⟨i,late⟩=(m',0))∧qDg m m' i f b s s':=by
    intro c v e1 e2 e3 e4 e5
    subst e5
    exact .inr (hlo hM hi hc hd h5 (by rw [hcell,e1]) e2 e3 h24 e4 (by simpa [So.to] using hn))
   repeat' split at ht
   ·rename_i e
    simp only [vX.go.injEq] at ht
    exact go (b+1) s.fst (by rw [e]; push_cast; rfl) (by omega) (by omega) hd.1.fst ht.symm
   ·rename_i _ e
    simp only [vX.go.injEq] at ht
    exact go (b+2) s.cnt (by rw [e]; push_cast; rfl) (by omega) (by omega) hd.1.cnt ht.symm
   ·rename_i _ _ e
    simp only [vX.go.injEq] at ht
    exact go (b+3) s.cls (by rw [e]; push_cast; rfl) (by omega) (by omega) hd.1.cls ht.symm
   ·exact absurd ht (by simp)
  ·split at ht
   ·rename_i hne hx
    obtain ⟨x1,x2,x3,x4⟩:=hx
    simp only [vX.go.injEq] at ht
    subst ht
    have hg:=hga x2
    have hcell:wN (qJ m i) (wD m i)=((b+4+(s.get (wD m i).a).toNat:Nat):Int):=by
     rw [hcr (by omega) x2 (by rw [hg]; omega) (by rw [hg]; omega),hg]
     omega
    exact .inr (hlo hM hi hc hd h5 hcell (by omega) (by omega) h24 (hd.1.dat _ x4) (by simpa [So.to] using hn))
   ·exact absurd ht (by simp)
 split at ht
 ·rename_i h5 h6
  unfold xB at ht
  split at ht
  ·rename_i h1
   have hcell:=hca h1
   repeat' split at ht
   ·rename_i e
    simp only [vX.go.injEq] at ht
    subst ht
    refine hso (c:=b+1) hM hi hc hh hd h6 (by rw [hcell,e]; push_cast; rfl) (by omega) (by omega) h24 (by simpa [So.to] using hn) ⟨rfl,rfl,rfl,rfl,rfl,rfl,hh⟩ rfl ?_ ?_ ?_ (fun j hj=>?_)
    ·rw [if_pos rfl]; rfl
    ·rw [if_neg (by omega)]; rfl
    ·rw [if_neg (by omega)]; rfl
    ·rw [if_neg (by omega)]; rfl
   ·rename_i _ e
    simp only [vX.go.injEq] at ht
    subst ht
    refine hso (c:=b+2) hM hi hc hh hd h6 (by rw [hcell,e]; push_cast; rfl) (by omega) (by omega) h24 (by simpa [So.to] using hn) ⟨rfl,rfl,rfl,rfl,rfl,rfl,hh⟩ rfl ?_ ?_ ?_ (fun j hj=>?_)
    ·rw [if_neg (by omega)]; rfl
    ·rw [if_pos rfl]; rfl
    ·rw [if_neg (by omega)]; rfl
    ·rw [if_neg (by omega)]; rfl
   ·rename_i _ _ e
    simp only [vX.go.injEq] at ht
    subst ht
    refine hso (c:=b+3) hM hi hc hh hd h6 (by rw [hcell,e]; push_cast; rfl) (by omega) (by omega) h24 (by simpa [So.to] using hn) ⟨rfl,rfl,rfl,rfl,rfl,rfl,hh⟩ rfl ?_ ?_ ?_ (fun j hj=>?_)
    ·rw [if_neg (by omega)]; rfl
    ·rw [if_neg (by omega)]; rfl
    ·rw [if_pos rfl]; rfl
    ·rw [if_neg (by omega)]; rfl
   ·exact absurd ht (by simp)
  ·split at ht
   ·rename_i hne hx
    obtain ⟨x1,x2,x3,x4⟩:=hx
    simp only [vX.go.injEq] at ht
    subst ht
    have hg:=hga x2
    have hcell:wN (qJ m i) (wD m i)=((b+4+(s.get (wD m i).a).toNat:Nat):Int):=by
     rw [hcr (by omega) x2 (by rw [hg]; omega) (by rw [hg]; omega),hg]
     omega
    refine hso hM hi hc hh hd h6 hcell (by omega) (by omega) h24 (by simpa [So.to] using hn) ⟨rfl,rfl,rfl,rfl,rfl,rfl,hh⟩ (by simp [So.to]) ?_ ?_ ?_ (fun j hj=>?_)
    ·rw [if_neg (by omega)]; rfl
    ·rw [if_neg (by omega)]; rfl
    ·rw [if_neg (by omega)]; rfl
    ·show (s.dat.set _ _).getD j 0=_
     rw [oP x4]
     by_cases e:j=(s.get (wD m i).a).toNat
     ·rw [if_pos e,if_pos (by omega)]
     ·rw [if_neg e,if_neg (by omega)]
   ·exact absurd ht (by simp)
 split at ht
 ·rename_i h5 h6 h7
  unfold gW at ht
  split at ht
  ·rename_i hx
   simp only [vX.go.injEq] at ht
   exact hle hM hi hc hh hd h7 (by rw [hca hx.1,hx.2.1]) h24 hx.2.2 (by rw [←ht] at hn; simpa [So.to] using hn) ht.symm
  ·exact absurd ht (by simp)
 ·exact absurd ht (by simp)
def body (p:wV) (i:Nat):List Ins:=p.bods.getD i []
def thd (s:wL) (i:Nat):vA:=s.ths.getD i default
def plc (p:wV) (i j:Nat):Ins:=(body p i).getD j default
def frm (p:wV) (i j:Nat):Int:=szB ((body p i).take j)
def chn (s:wL) (n:Nat):bS:=s.chs.getD n default
def lJ (x:Ins):Prop:=5≤x.op∧x.op≤9
inductive qDf (p:wV) (m:qY) (s:wL) (own:Nat→Option Nat) (i:Nat):Prop where
 | over (h:(qJ m i).st≠0) (hs:(thd s i).st=(qJ m i).st) (ho :∀n,own n≠some i)
 | out (k:Nat) (h:(qJ m i).st=0) (hs:(thd s i).st=0) (ha:(qJ m i).at_=frm p i (thd s i).at_.toNat+k) (hr:(qJ m i).regs.take 4=(thd s i).regs)
   (hk:k=0∨(lJ (plc p i (thd s i).at_.toNat)∧(k=1∧(qJ m i).regs.getD 7 0=1∨k=2∧(qJ m i).regs.getD 6 0≠0∨k=3))) (ho :∀n,own n≠some i)
 | inner (j n N:Nat) (a e:So) (fl:Bool) (hj:j<(body p i).length) (hx:lJ (plc p i j)) (hn:(plc p i j).n=n) (hc:rV (qJ m i) (frm p i j) a) (hst:a.settled (wJ (plc p i j)).toNat=false) (hk1:1≤a.k)
   (hN:N+a.k≤(wJ (plc p i j)).toNat) (hs:fC (frm p i j) (bs p.caps n) (bD (frm p i j) (bs p.caps n) (cp p.caps n) (plc p i j)) N a=some (e,fl)) (hd:a.dat.length=cp p.caps n)
   (hf:fl=true→(thd s i).st=2) (hg:fl=false→(thd s i).st=0∧(thd s i).at_=(if e.k=0 then (j:Int) else j+1)∧e.low=(thd s i).regs)
   (hh:a.hold=true→own n=some i∧qEz m.mem.cells (bs p.caps n) a∧nW m.mem.cells (bs p.caps n) (cp p.caps n) (qJ m i).view∧fT e (chn s n))
   (ho :∀n',own n'=some i→n'=n∧a.hold=true)
structure qJ6 (p:wV) (m:qY) (s:wL) (own:Nat→Option Nat) (n:Nat):Prop where
 free:own n=none→jD m.mem.cells (bs p.caps n)=0∧nW m.mem.cells (bs p.caps n) (cp p.caps n) ((m.mem.cells.getD (bs p.caps n) []).getD ((m.mem.cells.getD (bs p.caps n) []).length-1) default).view∧∃a:So,a.dat.length=cp p.caps n∧qEz m.mem.cells (bs p.caps n) a∧fT a (chn s n)
 held :∀i,own n=some i→i<m.cores.length∧jD m.mem.cells (bs p.caps n)=1
structure Inv (p:wV) (m:qY) (s:wL):Prop where
 mok:MOk m
 codes:m.codes=p.bods.map (comp p.caps)
 prog:jX p=true
 lie:bW p.caps=true
 src:wO p s=true
 tr:m.tr=s.tr
 own :∃own:Nat→Option Nat,(∀i,i<m.cores.length→qDf p m s own i)∧(∀n,n<p.caps.length→qJ6 p m s own n)
theorem qDf.frame {p:wV} {m m':qY} {s s':wL} {own own':Nat→Option Nat} {i:Nat} (h:qDf p m s own i) (h1:qJ m' i=qJ m i) (h2:thd s' i=thd s i) (h3 :∀n,own' n=some i↔own n=some i)
  (h4 :∀n,own n=some i→(∀c,bs p.caps n+1≤c→c<bs p.caps n+4+cp p.caps n→m'.mem.cells.getD c []=m.mem.cells.getD c [])∧chn s' n=chn s n):qDf p m' s' own' i:=by
 cases h with
 | over h hs ho=>exact .over (by rw [h1]; exact h) (by rw [h1,h2]; exact hs) (fun n e=>ho n ((h3 n).1 e))
 | out k h hs ha hr hk ho=>exact .out k (by rw [h1]; exact h) (by rw [h2]; exact hs) (by rw [h1,h2]; exact ha) (by rw [h1,h2]; exact hr) (by rw [h1,h2]; exact hk) (fun n e=>ho n ((h3 n).1 e))
 | inner j n N a e fl hj hx hn hc hst hk1 hN hs hd hf hg hh ho =>
  refine .inner j n N a e fl hj hx hn (by rw [h1]; exact hc) hst hk1 hN hs hd (by rw [h2]; exact hf) (by rw [h2]; exact hg) (fun hhold=>?_) (fun n' e=>ho n' ((h3 n').1 e))
  obtain ⟨a1,a2,a3,a4⟩:=hh hhold
  obtain ⟨f1,f2⟩:=h4 n a1
  have hl :∀c,bs p.caps n+1≤c→c<bs p.caps n+4+cp p.caps n→jD m'.mem.cells c=jD m.mem.cells c:=fun c hc1 hc2=>by unfold jD; rw [f1 c hc1 hc2]
  refine ⟨(h3 n).2 a1,⟨?_,?_,?_,fun q hq=>?_⟩,fun q hq1 hq2=>?_,by rw [f2]; exact a4⟩
  ·rw [hl _ (by omega) (by omega)]; exact a2.fst
  ·rw [hl _ (by omega) (by omega)]; exact a2.cnt
  ·rw [hl _ (by omega) (by omega)]; exact a2.cls
  ·rw [hl _ (by omega) (by omega)]; exact a2.dat q hq
  ·rw [h1,f1 _ (by omega) (by omega)]; exact a3 q hq1 hq2
theorem qJ6.frame {p:wV} {m m':qY} {s s':wL} {own own':Nat→Option Nat} {n:Nat} (h:qJ6 p m s own n) (h1:own' n=own n) (h2 :∀c,bs p.caps n≤c→c<bs p.caps n+4+cp p.caps n→own n=none→m'.mem.cells.getD c []=m.mem.cells.getD c [])
  (h3 :∀i,own n=some i→jD m'.mem.cells (bs p.caps n)=1) (h4:own n=none→chn s' n=chn s n) (h5:m'.cores.length=m.cores.length):qJ6 p m' s' own' n:=by
 refine ⟨fun e=>?_,fun i e=>?_⟩
 ·rw [h1] at e
  obtain ⟨a1,a2,a,a3,a4,a5⟩:=h.free e
  have hg :∀c,bs p.caps n≤c→c<bs p.caps n+4+cp p.caps n→m'.mem.cells.getD c []=m.mem.cells.getD c []:=fun c h6 h7=>h2 c h6 h7 e
  have hl :∀c,bs p.caps n≤c→c<bs p.caps n+4+cp p.caps n→jD m'.mem.cells c=jD m.mem.cells c:=fun c hc1 hc2=>by unfold jD; rw [hg c hc1 hc2]
  refine ⟨by rw [hl _ (by omega) (by omega)]; exact a1,?_,a,a3,⟨?_,?_,?_,fun q hq=>?_⟩,by rw [h4 e]; exact a5⟩
  ·rw [hg _ (by omega) (by omega)]
   intro q hq1 hq2
   rw [hg _ (by omega) (by omega)]
   exact a2 q hq1 hq2
  ·rw [hl _ (by omega) (by omega)]; exact a4.fst
  ·rw [hl _ (by omega) (by omega)]; exact a4.cnt
  ·rw [hl _ (by omega) (by omega)]; exact a4.cls
  ·rw [hl _ (by omega) (by omega)]; exact a4.dat q hq
 ·rw [h1] at e
  exact ⟨by rw [h5]; exact (h.held i e).1,h3 i e⟩
structure Fix (p:wV) (m:qY) (s:wL) (i:Nat):Prop where
 hi:i<m.cores.length
 hb:i<p.bods.length
 ht:i<s.ths.length
 bok:uI (body p i) p.caps.length=true
 code:m.codes.getD i []=comp p.caps (body p i)
 regs:(thd s i).regs.length=4
 at0:0≤(thd s i).at_
 at1:(thd s i).at_.toNat<(body p i).length
 st:0≤(thd s i).st∧(thd s i).st≤2
theorem Inv.fix {p:wV} {m:qY} {s:wL} (h:Inv p m s) {i:Nat} (hi:i<m.cores.length):Fix p m s i:=by
 have hl:m.codes.length=p.bods.length:=by rw [h.codes,qZf]
 have hc:=h.mok.cores
 have hs:=(dF p s).1 h.src
 have ht:i<s.ths.length:=by omega
 have ha:=qLa h.src ht
 have hth:=hs.2.2.2.2.1 i ht
 simp only [vT,qXo,decide_eq_true_eq,qO] at hth
 refine ⟨hi,by omega,ht,(fM h.prog).2.2.2.2 _ (yB p.bods i [] (by omega)),?_,ha.regs,ha.at0,ha.at1,by unfold thd; omega⟩
 rw [h.codes]
 unfold body
 simp [qXq,show i<p.bods.length by omega]
theorem Fix.ins {p:wV} {m:qY} {s:wL} {i:Nat} (F:Fix p m s i) {j:Nat} (hj:j<(body p i).length):zD (plc p i j) (body p i).length p.caps.length=true:=qIp F.bok j hj
theorem Fix.op {p:wV} {m:qY} {s:wL} {i:Nat} (F:Fix p m s i) {j:Nat} (hj:j<(body p i).length):1≤(plc p i j).op∧(plc p i j).op≤13∧Op4 (plc p i j):=by
 obtain ⟨a,b,c,d⟩:=tG (F.ins hj)
 rw [qO] at a b c d
 exact ⟨a.1,a.2,by omega,by omega,by omega,by omega,by omega,by omega⟩
theorem qD0 {p:wV} {i j:Nat} (hj:j<(body p i).length):frm p i (j+1)=frm p i j+wJ (plc p i j):=fX (body p i) j hj
theorem qQ0 (p:wV) (i j:Nat):0≤frm p i j:=(dZ (body p i) j).1
theorem Fix.last {p:wV} {m:qY} {s:wL} {i:Nat} (F:Fix p m s i) {j:Nat} (hj:j<(body p i).length) (h11:(plc p i j).op≠11) (h13:(plc p i j).op≠13):j+1<(body p i).length:=by
 have hb:=F.bok
 unfold uI qBg at hb
 simp only [qXo,qXz,decide_eq_true_eq] at hb
 have hl:=hb.2
 rcases Nat.lt_or_ge (j+1) (body p i).length with h | h
 ·exact h
 ·exfalso
  have e:(body p i).length-1=j:=by omega
  rw [e] at hl
  unfold plc at h11 h13
  omega
theorem Fix.size {p:wV} {m:qY} {s:wL} {i:Nat} (F:Fix p m s i) {j:Nat} (hj:j<(body p i).length):1≤wJ (plc p i j):=by
 have:=F.op hj
 exact qMg ⟨this.1,this.2.1⟩
theorem Fix.frm_lt {p:wV} {m:qY} {s:wL} {i:Nat} (F:Fix p m s i) (hl:bW p.caps=true) {j:Nat} (hj:j<(body p i).length):frm p i j+wJ (plc p i j)≤((m.codes.getD i []).length:Int):=by
 rw [F.code,qT3 F.bok hl]
 rw [←qD0 hj]
 by_cases e:j+1=(body p i).length
 ·unfold frm
  rw [e,qZq]
  omega
 ·have:=qN3 (b:=body p i) (fun q hq=>F.size hq) (j+1) (body p i).length (by omega) (qXn _)
  rw [qZq] at this
  exact Int.le_of_lt this
theorem Fix.frm_lt2 {p:wV} {m:qY} {s:wL} {i:Nat} (F:Fix p m s i) (hl:bW p.caps=true) {j:Nat} (hj:j<(body p i).length):frm p i j<((m.codes.getD i []).length:Int):=by
 have:=F.frm_lt hl hj
 have:=F.size hj
 omega
theorem Fix.step {p:wV} {m:qY} {s:wL} {i:Nat} (F:Fix p m s i) (hl:bW p.caps=true) {j k:Nat} (hj:j<(body p i).length) (hk:(k:Int)<wJ (plc p i j)) (ha:(qJ m i).at_=frm p i j+k) :
  wD m i=(hY p.caps (plc p i j) (frm p i j) (yZ (body p i))).getD k default∧jR (body p i) 0 0 (qJ m i).at_=((j:Int),decide (k=0)):=by
 have h0:=qQ0 p i j
 constructor
 ·unfold wD
  rw [F.code]
  have:=(qUz F.bok hl hj hk).2
  rw [show (qJ m i).at_.toNat=(szB ((body p i).take j)).toNat+k by rw [ha]; unfold frm at h0⊢; omega]
  exact this
 ·rw [qH9 (body p i) 0 0 (qJ m i).at_ j hj (by rw [ha]; unfold frm; omega) (by rw [ha,fX _ _ hj]; unfold frm; unfold plc at hk; omega)]
  refine Prod.ext (by simp) ?_
  show decide (_=_)=_
  rw [ha]
  congr 1
  apply propext
  unfold frm
  constructor<;>intro e<;>omega
theorem Fix.chan {p:wV} {m:qY} {s:wL} {i:Nat} (F:Fix p m s i) (hl:bW p.caps=true) {j:Nat} (hj:j<(body p i).length) (hx:lJ (plc p i j)) :
  ∃n:Nat,(plc p i j).n=n∧n<p.caps.length∧hY p.caps (plc p i j) (frm p i j) (yZ (body p i))=bD (frm p i j) (bs p.caps n) (cp p.caps n) (plc p i j)∧((bD (frm p i j) (bs p.caps n) (cp p.caps n) (plc p i j)).length:Int)=wJ (plc p i j):=by
 have hin:=F.ins hj
 obtain ⟨n0,n1⟩:=qI1 hin hx.1 hx.2
 obtain ⟨n,hn⟩:=qZl n0
 have hnl:n<p.caps.length:=by omega
 obtain ⟨e1,e2,_,_,_⟩:=cC hl hnl
 have he:hY p.caps (plc p i j) (frm p i j) (yZ (body p i))=bD (frm p i j) (bs p.caps n) (cp p.caps n) (plc p i j):=by
  unfold hY bD
  rw [show (yZ (body p i)).length=(body p i).length from jS _ _,hin,if_pos rfl,qO.2 hx,if_pos rfl,hn,e1,if_neg (by omega),qZh,e2]
 refine ⟨n,hn,hnl,he,?_⟩
 rw [←he]
 exact qG8 F.bok hl j hj _
theorem Fix.commits {p:wV} {m:qY} {s:wL} {i:Nat} (F:Fix p m s i) (hl:bW p.caps=true) {j k:Nat} (hj:j<(body p i).length) (hk:(k:Int)<wJ (plc p i j)) (ha:(qJ m i).at_=frm p i j+k) (t:yK) (regs:List Int) :
  zT p t regs i (qJ m i).at_=((decide (t.op=8)&&qL t.r 0 (regs.length-1)&&decide (regs.getD t.r.toNat 0=0))||decide (wJ (plc p i j)=1)):=by
 have hp:=(F.step hl hj hk ha).2
 have hb:=F.hb
 unfold zT
 have d:decide ((i:Int)<(p.bods.length:Int))=true:=by simp; exact hb
 rw [d,qZh]
 show (true&&decide (0≤(jR (body p i) 0 0 (qJ m i).at_).1)&&_)=_
 rw [show p.bods.getD i []=body p i from rfl,hp]
 simp only [qZh]
 have d2:decide (0≤(j:Int))=true:=by simp
 rw [d2]
 rfl
theorem qMk {p:wV} {m:qY} {s:wL} (h:Inv p m s) {n:Nat} (hn:n<p.caps.length):n<s.chs.length∧vK (chn s n)=true∧(chn s n).cap=cp p.caps n:=by
 have hs:=(dF p s).1 h.src
 have hl:n<s.chs.length:=by omega
 obtain ⟨a,b⟩:=hs.2.2.2.2.2 n hl
 exact ⟨hl,a,by unfold chn; rw [b]; exact (cC h.lie hn).2.1⟩
theorem Fix.one {p:wV} {m:qY} {s:wL} {i:Nat} (F:Fix p m s i) (hl:bW p.caps=true) {j:Nat} (hj:j<(body p i).length) (hx :¬lJ (plc p i j)):hY p.caps (plc p i j) (frm p i j) (yZ (body p i))=[single (plc p i j) (yZ (body p i))]∧wJ (plc p i j)=1:=by
 have hin:=F.ins hj
 have ho:=F.op hj
 refine ⟨?_,qMh ⟨ho.1,ho.2.1⟩ hx⟩
 unfold hY
 rw [show (yZ (body p i)).length=(body p i).length from jS _ _,hin,if_pos rfl]
 have hw:qL (plc p i j).op 5 9=false:=by
  cases h:qL (plc p i j).op 5 9
  ·rfl
  ·exact absurd (qO.1 h) hx
 rw [hw]
 rfl
theorem qLp {s:wL} {i:Nat} (t:vA) (hi:i<s.ths.length) (chs:List bS) (tr:List aP) (j:Nat):thd ⟨s.ths.set i t,chs,tr⟩ j=if j=i then t else thd s j:=by
 unfold thd
 exact nL _ _ _ _ _ hi
theorem Inv.go1 {p:wV} {m:qY} {s:wL} {own:Nat→Option Nat} {i:Nat} (h:Inv p m s) (hC :∀i,i<m.cores.length→qDf p m s own i) (hN :∀n,n<p.caps.length→qJ6 p m s own n) (hi:i<m.cores.length) {K':bZ} {tr':List aP} {t':vA}
  (hm:yG m ⟨i,0⟩=({jL m i K' with tr:=tr'},0)) (hsrc:wO p ⟨s.ths.set i t',s.chs,tr'⟩=true)
  (hci:(K'.st≠0∧t'.st=K'.st)∨(K'.st=0∧t'.st=0∧K'.at_=frm p i t'.at_.toNat∧K'.regs.take 4=t'.regs)) (hno :∀n,own n≠some i):Inv p {jL m i K' with tr:=tr'} ⟨s.ths.set i t',s.chs,tr'⟩:=by
 have F:=h.fix hi
 have hM':MOk {jL m i K' with tr:=tr'}:=by
  have:=mL ⟨i,0⟩ ((jM m).2 h.mok)
  rw [hm] at this
  exact (jM _).1 this
 refine ⟨hM',h.codes,h.prog,h.lie,hsrc,rfl,own,fun j hj=>?_,fun n hn=>?_⟩
 ·by_cases e:j=i
  ·subst e
   have hself:qJ {jL m j K' with tr:=tr'} j=K':=bO m j K' hi
   have ht:thd ⟨s.ths.set j t',s.chs,tr'⟩ j=t':=by rw [qLp _ F.ht,if_pos rfl]
   rcases hci with ⟨c1,c2⟩ | ⟨c1,c2,c3,c4⟩
   ·exact .over (by rw [hself]; exact c1) (by rw [hself,ht]; exact c2) hno
   ·exact .out 0 (by rw [hself]; exact c1) (by rw [ht]; exact c2) (by rw [hself,ht,c3]; simp) (by rw [hself,ht]; exact c4) (.inl rfl) hno
  ·refine (hC j (by simpa [jL] using hj)).frame (iK m i j K' e) ?_ (fun _=>Iff.rfl) (fun n _=>⟨fun _ _ _=>rfl,rfl⟩)
   rw [qLp _ F.ht,if_neg e]
 ·exact (hN n hn).frame rfl (fun _ _ _ _=>rfl) (fun j e=>((hN n hn).held j e).2) (fun _=>rfl) (oQ m i K')
theorem qRy {l:List Int} {r:Int} {v:Int}:(l.set r.toNat v).take 4=(l.take 4).set r.toNat v:=by rw [List.take_set]
theorem qR8 {K:bZ} {th:vA} {r:Int} (h:K.regs.take 4=th.regs) (h0:0≤r) (h1:r<4):rg K r=reg th r:=by
 unfold rg reg
 rw [←h]
 simp [qXq,List.getElem?_take,show r.toNat<4 by omega]
theorem sM {p:wV} {s:wL} {i:Nat} (hi:i<s.ths.length) (hst:(thd s i).st=0):jI p s i=if (ins p s i).op=10∧(s.tr.length:Int)=4000 then 3 else if¬(ins p s i).op=5∧¬(ins p s i).op=6 then 0
  else if (chn s (ins p s i).n.toNat).closed=false∧(((ins p s i).op=5∧((chn s (ins p s i).n.toNat).list.length:Int)=(chn s (ins p s i).n.toNat).cap)∨((ins p s i).op=6∧((chn s (ins p s i).n.toNat).list.length:Int)=0)) then 4 else 0:=by
 unfold jI
 have hw:qL (i:Int) 0 ((s.ths.length:Int)-1)=true:=by rw [qO]; omega
 rw [hw,if_neg (by decide),qZh]
 have hst':(s.ths.getD i default).st=0:=hst
 rw [hst']
 simp only [not_true,false_or]
 rfl
theorem Inv.single {p:wV} {m:qY} {s:wL} {own:Nat→Option Nat} {i:Nat} (h:Inv p m s) (hC :∀i,i<m.cores.length→qDf p m s own i) (hN :∀n,n<p.caps.length→qJ6 p m s own n) (hi:i<m.cores.length)
  (hst:(qJ m i).st=0) (hs:(thd s i).st=0) (ha:(qJ m i).at_=frm p i (thd s i).at_.toNat) (hr:(qJ m i).regs.take 4=(thd s i).regs) (hno :∀n,own n≠some i) (hx :¬lJ (plc p i (thd s i).at_.toNat)) :
  (∀late,yG m ⟨i,late⟩=(m,3))∨∃m',(∀late,yG m ⟨i,late⟩=(m',0))∧jI p s i=0∧Inv p m' (yY p s i):=by
 have F:=h.fix hi
 obtain ⟨j,hj⟩:=qZl F.at0
 have hjn:(thd s i).at_.toNat=j:=by rw [hj]; rfl
 have hxe:plc p i j=Go.Sep.ins p s i:=by rw [←hjn]; rfl
 have hjl:=F.at1
 rw [hjn] at ha hx hjl
 have hinx:=F.ins hjl
 obtain ⟨o1,o2,o4⟩:=F.op hjl
 have hone:=F.one h.lie hjl hx
 have hstep:=(F.step h.lie hjl (k:=0) (by rw [hone.2]; decide) (by rw [ha]; simp)).1
 rw [hone.1,List.getD_cons_zero] at hstep
 have hlast:=fun a b=>F.last hjl a b
 have hsrc:=sM (p:=p) F.ht hs
 have hcs:=@oA p s i h.src F.ht
 have htr:=h.tr
 have hfs:=qD0 hjl
 rw [hone.2] at hfs
 have hlt2:=fun q hq=>F.frm_lt2 h.lie (j:=q) hq
 have hjm:(plc p i j).op=11∨(plc p i j).op=12→0≤(plc p i j).n∧(plc p i j).n.toNat<(body p i).length:=fun e=>by
  have:=qOf hinx e
  omega
 have hsg :∀q,q<(body p i).length→(yZ (body p i)).getD q 0=frm p i q:=fun q hq=>xR (body p i) _ q hq
 have hdo:yY p s i=yY p s i:=rfl
 conv at hdo=>rhs; unfold yY
 rw [←hxe] at hsrc hcs hdo
 have hth:s.ths.getD i default=thd s i:=rfl
 rw [hth,hj] at hdo
 have hbl:((p.bods.getD i []).length:Int)=(body p i).length:=rfl
 have hgo :∀(S:wL) (t:vA) (q:Int),q<(body p i).length→eC p S i t true q=⟨S.ths.set i ⟨q,t.regs,t.st⟩,S.chs,S.tr⟩:=fun S t q hq=>by
  unfold eC
  rw [hbl,if_neg (by simp; omega)]
 generalize plc p i j=x at *
 have hcase:x.op=1∨x.op=2∨x.op=3∨x.op=4∨x.op=10∨x.op=11∨x.op=12∨x.op=13:=by unfold lJ at hx; omega
 have alu :∀(v:Int),x.op≤4→(wD m i).op≤4→Go.Sep.alu (qJ m i) (wD m i) = {qJ m i with regs:=(qJ m i).regs.set x.r.toNat v}→yY p s i=eC p s i (wX (thd s i) x.r v) true ((j:Int)+1)→
   ∃m',(∀late,yG m ⟨i,late⟩=(m',0))∧jI p s i=0∧Inv p m' (yY p s i):=by
  intro v ho ho' hal hd
  have hl:=hlast (by omega) (by omega)
  have hn:uR (qJ m i) (wD m i)=(qJ m i).at_+1:=by unfold uR; rw [if_neg (by omega),if_neg (by omega)]
  have hm0:jK (wD m i).op=false:=by
   unfold jK
   have h5 :¬(wD m i).op=5:=by omega
   have h6 :¬(wD m i).op=6:=by omega
   have h7 :¬(wD m i).op=7:=by omega
   have h8 :¬(wD m i).op=8:=by omega
   simp [h5,h6,h7,h8]
  have hml:=fun late=>@kH m i late hi hst (by omega) (by omega) (by omega) hm0 (by rw [hn,ha]; have:=hlt2 (j+1) hl; omega)
  rw [hgo _ _ _ (by omega)] at hd
  have hs0:wO p (yY p s i)=true:=hcs (by omega)
  rw [hd] at hs0
  refine ⟨_,hml,by rw [hsrc,if_neg (by omega),if_pos (by omega)],?_⟩
  rw [hd]
  have:=h.go1 hC hN hi (K':={Go.Sep.alu (qJ m i) (wD m i) with at_:=uR (qJ m i) (wD m i)}) (tr':=s.tr) (t':=⟨(j:Int)+1,(thd s i).regs.set x.r.toNat v,(thd s i).st⟩) (by rw [hml 0,←htr]; rfl) hs0 (.inr ?_) hno
  ·rw [←htr] at this⊢
   exact this
  ·rw [hal,hn]
   refine ⟨hst,hs,?_,?_⟩
   ·show (qJ m i).at_+1=frm p i ((j:Int)+1).toNat
    rw [show ((j:Int)+1).toNat=j+1 by omega,hfs,ha]
   ·show ((qJ m i).regs.set x.r.toNat v).take 4=_
    rw [qRy,hr]
 obtain ⟨r0,r1,a0,a1,b0,b1⟩:=o4
 have ga:=qR8 hr a0 a1
 have gb:=qR8 hr b0 b1
 rcases hcase with ho | ho | ho | ho | ho | ho | ho | ho
 ·have ht:wD m i=⟨1,x.r,0,0,x.n⟩:=by rw [hstep]; simp [Go.Sep.single,ho]
  exact .inr (alu x.n (by omega) (by rw [ht]; simp) (by rw [ht]; simp [Go.Sep.alu,oB]) (by rw [hdo,if_pos ho]))
 ·have ht:wD m i=⟨2,x.r,x.a,x.b,0⟩:=by rw [hstep]; simp [Go.Sep.single,ho]
  exact .inr (alu _ (by omega) (by rw [ht]; simp) (by rw [ht]; simp [Go.Sep.alu,oB,ga,gb]; rfl) (by rw [hdo,if_neg (by omega),if_pos (by omega),ho]; simp [gF]))
 ·have ht:wD m i=⟨3,x.r,x.a,x.b,0⟩:=by rw [hstep]; simp [Go.Sep.single,ho]
  exact .inr (alu _ (by omega) (by rw [ht]; simp) (by rw [ht]; simp [Go.Sep.alu,oB,ga,gb]; rfl) (by rw [hdo,if_neg (by omega),if_pos (by omega),ho]; simp [gF]))
 ·have ht:wD m i=⟨4,x.r,x.a,x.b,0⟩:=by rw [hstep]; simp [Go.Sep.single,ho]
  exact .inr (alu _ (by omega) (by rw [ht]; simp) (by rw [ht]; simp [Go.Sep.alu,oB,ga,gb]; rfl) (by rw [hdo,if_neg (by omega),if_pos (by omega),ho]; simp [gF]))
 ·
  have ht:wD m i=⟨9,0,x.a,0,0⟩:=by rw [hstep]; simp [Go.Sep.single,ho]
  have hl:=hlast (by omega) (by omega)
  by_cases hful:(s.tr.length:Int)=4000
  ·left
   intro late
   refine mM ?_
   rw [lU hi,if_pos (.inr ⟨by rw [ht],by rw [htr]; exact hful⟩)]
  right
  have hml :∀late,yG m ⟨i,late⟩=({jL m i {qJ m i with at_:=(qJ m i).at_+1} with tr:=s.tr++[⟨i,reg (thd s i) x.a⟩]},0):=by
   intro late
   have hmc:aM m i=0:=by
    rw [lU hi,if_neg (by rw [hst,htr]; simp; intro _; exact hful),ht]
    simp [jK]
   rw [sY hmc]
   unfold mdo
   simp only
   rw [ht]
   simp only
   rw [if_neg (by decide),if_neg (by decide),if_neg (by decide),if_pos trivial]
   unfold fH
   rw [if_neg (by rw [ha]; have:=hlt2 (j+1) hl; simp only; omega),ga,htr]
   rfl
  have hd:yY p s i=⟨s.ths.set i ⟨(j:Int)+1,(thd s i).regs,(thd s i).st⟩,s.chs,s.tr++[⟨i,reg (thd s i) x.a⟩]⟩:=by
   rw [hdo,if_neg (by omega),if_neg (by omega),if_pos ho,hgo _ _ _ (by omega)]
  have hs0:wO p (yY p s i)=true:=hcs (fun _=>by
   have:=((dF p s).1 h.src).2.2.2.1
   unfold bJ at this
   simp only [qXo,decide_eq_true_eq] at this
   omega)
  rw [hd] at hs0
  refine ⟨_,hml,by rw [hsrc,if_neg (by omega),if_pos (by omega)],?_⟩
  rw [hd]
  exact h.go1 hC hN hi (t':=⟨(j:Int)+1,(thd s i).regs,(thd s i).st⟩) (hml 0) hs0 (.inr ⟨hst,hs,by show (qJ m i).at_+1=frm p i ((j:Int)+1).toNat; rw [show ((j:Int)+1).toNat=j+1 by omega,hfs,ha],hr⟩) hno
 ·
  have hjm:=hjm (.inl ho)
  have ht:wD m i=⟨10,0,0,0,frm p i x.n.toNat⟩:=by rw [hstep,←hsg _ hjm.2]; simp [Go.Sep.single,ho]
  have hml :∀late,yG m ⟨i,late⟩=(jL m i {qJ m i with at_:=frm p i x.n.toNat},0):=by
   intro late
   rw [@kH m i late hi hst (by rw [ht]; simp) (by rw [ht]; simp) (by rw [ht]; simp) (by rw [ht]; rfl) (by rw [ht]; exact hlt2 _ hjm.2),ht]
   rfl
  have hd:yY p s i=⟨s.ths.set i ⟨x.n,(thd s i).regs,(thd s i).st⟩,s.chs,s.tr⟩:=by
   rw [hdo,if_neg (by omega),if_neg (by omega),if_neg (by omega),if_pos ho,hgo _ _ _ (by omega)]
  have hs0:wO p (yY p s i)=true:=hcs (by omega)
  rw [hd] at hs0
  refine .inr ⟨_,hml,by rw [hsrc,if_neg (by omega),if_pos (by omega)],?_⟩
  rw [hd]
  have:=h.go1 hC hN hi (K':={qJ m i with at_:=frm p i x.n.toNat}) (tr':=s.tr) (t':=⟨x.n,(thd s i).regs,(thd s i).st⟩) (by rw [hml 0,←htr]; rfl) hs0 (.inr ⟨hst,hs,rfl,hr⟩) hno
  rw [←htr] at this⊢
  exact this
 ·
  have hjm:=hjm (.inr ho)
  have hl:=hlast (by omega) (by omega)
  have ht:wD m i=⟨11,0,x.a,0,frm p i x.n.toNat⟩:=by rw [hstep,←hsg _ hjm.2]; simp [Go.Sep.single,ho]
  have hz :∀q:Int,0≤q→q<(body p i).length→(if reg (thd s i) x.a=0 then x.n else (j:Int)+1)=q→uR (qJ m i) (wD m i)=frm p i q.toNat→
    ∃m',(∀late,yG m ⟨i,late⟩=(m',0))∧jI p s i=0∧Inv p m' (yY p s i):=by
   intro q hq0 hq he hnx
   have hml :∀late,yG m ⟨i,late⟩=(jL m i {qJ m i with at_:=frm p i q.toNat},0):=by
    intro late
    rw [@kH m i late hi hst (by rw [ht]; simp) (by rw [ht]; simp) (by rw [ht]; simp) (by rw [ht]; rfl) (by rw [hnx]; exact hlt2 _ (by omega)),hnx,ht]
    rfl
   have hd:yY p s i=⟨s.ths.set i ⟨q,(thd s i).regs,(thd s i).st⟩,s.chs,s.tr⟩:=by
    rw [hdo,if_neg (by omega),if_neg (by omega),if_neg (by omega),if_neg (by omega),if_pos ho,he,hgo _ _ _ (by omega)]
   have hs0:wO p (yY p s i)=true:=hcs (by omega)
   rw [hd] at hs0
   refine ⟨_,hml,by rw [hsrc,if_neg (by omega),if_pos (by omega)],?_⟩
   rw [hd]
   have:=h.go1 hC hN hi (K':={qJ m i with at_:=frm p i q.toNat}) (tr':=s.tr) (t':=⟨q,(thd s i).regs,(thd s i).st⟩) (by rw [hml 0,←htr]; rfl) hs0 (.inr ⟨hst,hs,rfl,hr⟩) hno
   rw [←htr] at this⊢
   exact this
  right
  by_cases hz0:reg (thd s i) x.a=0
  ·refine hz x.n hjm.1 (by omega) (by rw [if_pos hz0]) ?_
   rw [ht]
   unfold uR
   simp only
   rw [if_neg (by decide),if_pos ⟨trivial,by rw [ga]; exact hz0⟩]
  ·refine hz ((j:Int)+1) (by omega) (by omega) (by rw [if_neg hz0]) ?_
   rw [ht]
   unfold uR
   simp only
   rw [if_neg (by decide),if_neg (by rw [ga]; exact fun e=>hz0 e.2),show ((j:Int)+1).toNat=j+1 by omega,hfs,ha]
 ·
  have ht:wD m i=⟨12,0,0,0,0⟩:=by rw [hstep]; simp [Go.Sep.single,ho]
  have hml :∀late,yG m ⟨i,late⟩=(jL m i {qJ m i with st:=1},0):=by
   intro late
   rw [sY (qEc hi hst (by rw [ht]; simp) (by rw [ht]; rfl))]
   unfold mdo stop
   simp only
   rw [if_pos (by rw [ht])]
  have hd:yY p s i=⟨s.ths.set i ⟨j,(thd s i).regs,1⟩,s.chs,s.tr⟩:=by
   rw [hdo,if_neg (by omega),if_neg (by omega),if_neg (by omega),if_neg (by omega),if_neg (by omega),if_pos ho]
  have hs0:wO p (yY p s i)=true:=hcs (by omega)
  rw [hd] at hs0
  refine .inr ⟨_,hml,by rw [hsrc,if_neg (by omega),if_pos (by omega)],?_⟩
  rw [hd]
  have:=h.go1 hC hN hi (K':={qJ m i with st:=1}) (tr':=s.tr) (t':=⟨j,(thd s i).regs,1⟩) (by rw [hml 0,←htr]; rfl) hs0 (.inl ⟨(by decide:(1:Int)≠0),rfl⟩) hno
  rw [←htr] at this⊢
  exact this
theorem Inv.build {p:wV} {m m':qY} {s s':wL} {own own':Nat→Option Nat} {i n0:Nat} (h:Inv p m s) (hC :∀i,i<m.cores.length→qDf p m s own i) (hN :∀n,n<p.caps.length→qJ6 p m s own n) (hn0:n0<p.caps.length)
  (hm:MOk m') (hcodes:m'.codes=m.codes) (hlen:m'.cores.length=m.cores.length) (hother :∀j,j≠i→qJ m' j=qJ m j) (hsrc:wO p s'=true) (hths :∀j,j≠i→thd s' j=thd s j) (htr:m'.tr=s'.tr)
  (hci:qDf p m' s' own' i) (hownj :∀j,j≠i→∀n,own' n=some j↔own n=some j) (hcells :∀c,¬(bs p.caps n0≤c∧c<bs p.caps n0+4+cp p.caps n0)→m'.mem.cells.getD c []=m.mem.cells.getD c [])
  (hdata :∀j,j≠i→own n0=some j→(∀c,bs p.caps n0+1≤c→c<bs p.caps n0+4+cp p.caps n0→m'.mem.cells.getD c []=m.mem.cells.getD c [])∧chn s' n0=chn s n0) (hchn :∀n,n≠n0→chn s' n=chn s n) (hown :∀n,n≠n0→own' n=own n)
  (hNI:qJ6 p m' s' own' n0):Inv p m' s':=by
 have hdis :∀n,n≠n0→n<p.caps.length→∀c,bs p.caps n≤c→c<bs p.caps n+4+cp p.caps n→m'.mem.cells.getD c []=m.mem.cells.getD c []:=by
  intro n hn hnl c h1 h2
  refine hcells c fun hh=>?_
  rcases Nat.lt_or_gt_of_ne hn with h3 | h3
  ·have:=qIo h.lie h3 hn0
   omega
  ·have:=qIo h.lie h3 hnl
   omega
 refine ⟨hm,by rw [hcodes,h.codes],h.prog,h.lie,hsrc,htr,own',fun j hj=>?_,fun n hn=>?_⟩
 ·by_cases e:j=i
  ·rw [e]; exact hci
  ·refine (hC j (by omega)).frame (hother j e) (hths j e) (hownj j e) (fun n hno=>?_)
   by_cases en:n=n0
   ·subst en
    exact hdata j e hno
   ·have hnl:n<p.caps.length:=by
     have hcj:=hC j (by omega)
     cases hcj with
     | over _ _ ho=>exact absurd hno (ho n)
     | out _ _ _ _ _ _ ho=>exact absurd hno (ho n)
     | inner j' n' N a e fl hj' hx hn' hc hst hk1 hN' hs hd hf hg hh ho =>
      obtain ⟨rfl,_⟩:=ho n hno
      have:=qI1 ((h.fix (by omega:j<m.cores.length)).ins hj') hx.1 hx.2
      omega
    exact ⟨fun c h1 h2=>hdis n en hnl c (by omega) h2,hchn n en⟩
 ·by_cases en:n=n0
  ·rw [en]; exact hNI
  ·refine (hN n hn).frame (hown n en) (fun c h1 h2 _=>hdis n en hn c h1 h2) (fun j e=>?_) (fun _=>hchn n en) hlen
   have:=((hN n hn).held j e).2
   unfold jD at this⊢
   rw [hdis n en hn _ (qXn _) (by omega)]
   exact this
theorem qSr {cs:List (List wY)} {view:List Int} {c:Nat} (hm:lR cs) (hv:VOk cs view) (hc:c<24):load cs view c 0 true=(jD cs c,join (view.set c (((cs.getD c []).length:Int)-1)) ((cs.getD c []).getD ((cs.getD c []).length-1) default).view):=by
 have h1:=(hm.cell c hc).1
 have h2:=hv.2 c hc
 have e:max (((cs.getD c []).length:Int)-1-max 0 0) (view.getD c 0)=((cs.getD c []).length:Int)-1:=by omega
 have e2:(((cs.getD c []).length:Int)-1).toNat=(cs.getD c []).length-1:=by omega
 unfold load jD
 simp only
 rw [e,e2,if_pos trivial]
theorem qUa {cs:List (List wY)} {c:Nat} (hm:lR cs) (hc:c<24):VOk cs ((cs.getD c []).getD ((cs.getD c []).length-1) default).view:=by
 have h1:=(hm.cell c hc).1
 exact hm.view c hc _ (yB _ _ _ (by omega))
theorem qPm {m:qY} {i:Nat} {b:Nat} (hM:MOk m) (hi:i<m.cores.length) (hst:(qJ m i).st=0) (ht:wD m i=⟨8,6,0,7,b⟩) (hb:b<24) (h7:(qJ m i).regs.getD 7 0=1) (hn:(qJ m i).at_+1<((m.codes.getD i []).length:Int)) :
  (∀late,yG m ⟨i,late⟩=(m,3))∨∃vw,vw=(join ((qJ m i).view.set b (((m.mem.cells.getD b []).length:Int)-1)) ((m.mem.cells.getD b []).getD ((m.mem.cells.getD b []).length-1) default).view).set b ((m.mem.cells.getD b []).length:Int)∧
   ∀late,yG m ⟨i,late⟩=(jL {m with mem:=⟨m.mem.cells.set b (m.mem.cells.getD b []++[⟨1,vw⟩])⟩} i ⟨(qJ m i).at_+1,(qJ m i).regs.set 6 (jD m.mem.cells b),vw,0⟩,0):=by
 have hm:jK (wD m i).op=true:=by rw [ht]; rfl
 have hK:=hM.core i hi
 rcases qEb hi hst hm with h3 | ⟨h0,_⟩
 ·exact .inl fun late=>mM h3
 refine .inr ⟨_,rfl,fun late=>?_⟩
 have hcell:wN (qJ m i) (wD m i)=b:=by
  unfold wN
  rw [ht]
  simp
 rw [qA5 h0 hm hcell hb hn]
 have hrg:rg (qJ m i) 7=1:=h7
 unfold jN
 rw [ht]
 simp only
 rw [if_neg (by decide),if_pos trivial,qSr hM.mem hK.view hb]
 simp only
 rw [qGl,hrg,hst]
 rfl
theorem qQ8 {cs:List (List wY)} {b n:Nat} {view:List Int} {x:wY} (hm:lR cs) (hv:VOk cs view) (h24:b+n+4≤24) (hc:nW cs b n ((cs.getD b []).getD ((cs.getD b []).length-1) default).view) :
  nW (cs.set b (cs.getD b []++[x])) b n ((join (view.set b (((cs.getD b []).length:Int)-1)) ((cs.getD b []).getD ((cs.getD b []).length-1) default).view).set b ((cs.getD b []).length:Int)):=by
 intro j hj1 hj2
 have hw:=qUa hm (c:=b) (by omega)
 have hl:=hm.len
 have h1:=hc j hj1 hj2
 have h2:=hv.2 (b+j) (by omega)
 have hjl:(join (view.set b (((cs.getD b []).length:Int)-1)) ((cs.getD b []).getD ((cs.getD b []).length-1) default).view).length=24:=by rw [tC _ _ (by rw [qZ5,hv.1,hw.1]),qZ5,hv.1]
 rw [gR _ _ _ _ _ (by omega),if_neg (by omega),fP _ (by omega),if_neg (by omega)]
 rw [qMb _ _ _ (by rw [qZ5,hv.1]; omega) (by rw [hw.1]; omega),gR _ _ _ _ _ (by rw [hv.1]; omega),if_neg (by omega)]
 omega
def qTs (K:bZ) (k:Nat) (d:So) (hold:Bool):So:=⟨k,K.regs.take 4,K.regs.getD 4 0,K.regs.getD 5 0,K.regs.getD 6 0,K.regs.getD 7 0,d.fst,d.cnt,d.cls,d.dat,hold⟩
theorem qTr {K:bZ} {f:Int} {k:Nat} {d:So} {hold:Bool} (h8:K.regs.length=8) (ha:K.at_=f+k) (hst:K.st=0):rV K f (qTs K k d hold):=by
 refine ⟨ha,?_,by simp [qTs,h8],hst⟩
 obtain ⟨a,r,v,st⟩:=K
 simp only at h8
 match r,h8 with
 | [r0,r1,r2,r3,r4,r5,r6,r7],_=>rfl
theorem qVu (f b:Int) (X:List yK):(gE f b++X).getD 0 default=⟨1,7,0,0,1⟩∧(gE f b++X).getD 1 default=⟨8,6,0,7,b⟩∧(gE f b++X).getD 2 default=⟨11,0,6,0,f+4⟩∧(gE f b++X).getD 3 default=⟨10,0,0,0,f+0⟩:=⟨rfl,rfl,rfl,rfl⟩
theorem Inv.walk {p:wV} {m:qY} {s:wL} {own:Nat→Option Nat} {i:Nat} (h:Inv p m s) (hC :∀i,i<m.cores.length→qDf p m s own i) (hN :∀n,n<p.caps.length→qJ6 p m s own n) (hi:i<m.cores.length) {K':bZ}
  (hm:yG m ⟨i,0⟩=(jL m i K',0)) (hci:qDf p (jL m i K') s own i):Inv p (jL m i K') s:=by
 have hM':MOk (jL m i K'):=by
  have:=mL ⟨i,0⟩ ((jM m).2 h.mok)
  rw [hm] at this
  exact (jM _).1 this
 refine ⟨hM',h.codes,h.prog,h.lie,h.src,h.tr,own,fun j hj=>?_,fun n hn=>?_⟩
 ·by_cases e:j=i
  ·rw [e]; exact hci
  ·exact (hC j (by simpa [jL] using hj)).frame (iK m i j K' e) rfl (fun _=>Iff.rfl) (fun n _=>⟨fun _ _ _=>rfl,rfl⟩)
 ·exact (hN n hn).frame rfl (fun _ _ _ _=>rfl) (fun j e=>((hN n hn).held j e).2) (fun _=>rfl) (oQ m i K')
theorem sL {l:List Int} {r:Nat} {v:Int} (h:4≤r):(l.set r v).take 4=l.take 4:=by
 rw [List.take_set,List.set_eq_of_length_le (by simp; omega)]
theorem Inv.spin {p:wV} {m:qY} {s:wL} {own:Nat→Option Nat} {i:Nat}
  (h:Inv p m s) (hC :∀i,i<m.cores.length→qDf p m s own i) (hN :∀n,n<p.caps.length→qJ6 p m s own n) (hi:i<m.cores.length) {k:Nat}
  (hst:(qJ m i).st=0) (hs:(thd s i).st=0) (ha:(qJ m i).at_=frm p i (thd s i).at_.toNat+k) (hr:(qJ m i).regs.take 4=(thd s i).regs) (hno :∀n,own n≠some i) (hx:lJ (plc p i (thd s i).at_.toNat))
  (hk:k=0∨k=1∧(qJ m i).regs.getD 7 0=1∨k=2∧(qJ m i).regs.getD 6 0≠0∨k=3) :
  (∀late,yG m ⟨i,late⟩=(m,3))∨∃m',(∀late,yG m ⟨i,late⟩=(m',0))∧
   ((((decide ((wD m i).op=8)&&qL (wD m i).r 0 ((qJ m' i).regs.length-1)&&decide ((qJ m' i).regs.getD (wD m i).r.toNat 0=0))=false)∧Inv p m' s)∨
    (((decide ((wD m i).op=8)&&qL (wD m i).r 0 ((qJ m' i).regs.length-1)&&decide ((qJ m' i).regs.getD (wD m i).r.toNat 0=0))=true)∧(jI p s i=0∨jI p s i=4)∧Inv p m' (wP p s i).1)):=by
 have F:=h.fix hi
 have hxe:plc p i (thd s i).at_.toNat=Go.Sep.ins p s i:=rfl
 obtain ⟨j,hj⟩:=qZl F.at0
 have hjl:=F.at1
 have hK:=h.mok.core i hi
 have hr8:=hK.regs
 have hsz:=kA hx
 have hin:=F.ins hjl
 obtain ⟨n,hn,hnl,hem,hlen⟩:=F.chan h.lie hjl hx
 obtain ⟨c1,c2,c3,c4,c5⟩:=cC h.lie hnl
 have hstep:=fun (q:Nat) (hq:q<4) (e:k=q)=>(F.step h.lie hjl (k:=k) (by omega) ha).1
 rw [hem] at hstep
 have hlk:=qVu (frm p i (thd s i).at_.toNat) (bs p.caps n) (if (plc p i (thd s i).at_.toNat).op=5∨(plc p i (thd s i).at_.toNat).op=7 then cK (frm p i (thd s i).at_.toNat) (bs p.caps n) (cp p.caps n) (plc p i (thd s i).at_.toNat) else if (plc p i (thd s i).at_.toNat).op=6∨(plc p i (thd s i).at_.toNat).op=8 then cJ (frm p i (thd s i).at_.toNat) (bs p.caps n) (cp p.caps n) (plc p i (thd s i).at_.toNat) else cA (frm p i (thd s i).at_.toNat) (bs p.caps n))
 have hlt:=F.frm_lt h.lie hjl
 have hf0:=qQ0 p i (thd s i).at_.toNat
 have hloc:=fun (late:Int)=>@kH m i late hi hst
 rcases hk with rfl | ⟨rfl,h7⟩ | ⟨rfl,h6⟩ | rfl
 ·
  right
  have ht:wD m i=⟨1,7,0,0,1⟩:=by rw [hstep 0 (by omega) rfl]; exact hlk.1
  have hm :∀late,yG m ⟨i,late⟩=(jL m i ⟨(qJ m i).at_+1,(qJ m i).regs.set 7 1,(qJ m i).view,0⟩,0):=by
   intro late
   rw [hloc late (by rw [ht]; simp) (by rw [ht]; simp) (by rw [ht]; simp) (by rw [ht]; rfl) (by rw [ht]; show (qJ m i).at_+1<_; omega),ht,←hst]
   rfl
  refine ⟨_,hm,.inl ⟨by rw [ht]; simp,?_⟩⟩
  refine h.walk hC hN hi (hm 0) (.out 1 ?_ hs ?_ ?_ (.inr ⟨hx,.inl ⟨rfl,?_⟩⟩) hno)
  ·rw [bO m i _ hi]
  ·rw [bO m i _ hi]
   show (qJ m i).at_+1=_
   omega
  ·rw [bO m i _ hi]
   show ((qJ m i).regs.set 7 1).take 4=_
   rw [sL (by omega),hr]
  ·rw [bO m i _ hi]
   exact (oP (by omega)).trans (if_pos rfl)
 ·
  have ht:wD m i=⟨8,6,0,7,bs p.caps n⟩:=by rw [hstep 1 (by omega) rfl]; exact hlk.2.1
  rcases qPm h.mok hi hst ht (by omega) h7 (by omega) with hfu | ⟨vw,hvw,hm⟩
  ·exact .inl hfu
  right
  refine ⟨_,hm,?_⟩
  have hML:m.mem.cells.length=24:=h.mok.mem.len
  have hself:=bO {m with mem:=⟨m.mem.cells.set (bs p.caps n) (m.mem.cells.getD (bs p.caps n) []++[⟨1,vw⟩])⟩} i ⟨(qJ m i).at_+1,(qJ m i).regs.set 6 (jD m.mem.cells (bs p.caps n)),vw,0⟩ hi
  have hM':MOk (jL {m with mem:=⟨m.mem.cells.set (bs p.caps n) (m.mem.cells.getD (bs p.caps n) []++[⟨1,vw⟩])⟩} i ⟨(qJ m i).at_+1,(qJ m i).regs.set 6 (jD m.mem.cells (bs p.caps n)),vw,0⟩):=by
   have:=mL ⟨i,0⟩ ((jM m).2 h.mok)
   rw [hm] at this
   exact (jM _).1 this
  generalize hM1:jL {m with mem:=⟨m.mem.cells.set (bs p.caps n) (m.mem.cells.getD (bs p.caps n) []++[⟨1,vw⟩])⟩} i ⟨(qJ m i).at_+1,(qJ m i).regs.set 6 (jD m.mem.cells (bs p.caps n)),vw,0⟩=m' at *
  have hcel:m'.mem.cells=m.mem.cells.set (bs p.caps n) (m.mem.cells.getD (bs p.caps n) []++[⟨1,vw⟩]):=by rw [←hM1]; rfl
  have hcod:m'.codes=m.codes:=by rw [←hM1]; rfl
  have htr':m'.tr=m.tr:=by rw [←hM1]; rfl
  have hln:m'.cores.length=m.cores.length:=by rw [←hM1]; exact oQ _ _ _
  have hoth :∀q,q≠i→qJ m' q=qJ m q:=fun q hq=>by rw [←hM1,iK _ _ _ _ hq]; rfl
  have hbl:bs p.caps n<m.mem.cells.length:=by omega
  have hlw :∀c,jD m'.mem.cells c=if c=bs p.caps n then 1 else jD m.mem.cells c:=fun c=>by rw [hcel,zC _ hbl]
  have hcg :∀c,c≠bs p.caps n→m'.mem.cells.getD c []=m.mem.cells.getD c []:=fun c hc=>by rw [hcel,fP _ hbl,if_neg hc]
  have hregs:(qJ m' i).regs=(qJ m i).regs.set 6 (jD m.mem.cells (bs p.caps n)):=by rw [hself]
  have hcond:(decide ((wD m i).op=8)&&qL (wD m i).r 0 ((qJ m' i).regs.length-1)&&decide ((qJ m' i).regs.getD (wD m i).r.toNat 0=0))=decide (jD m.mem.cells (bs p.caps n)=0):=by
   rw [ht,hregs]
   simp only [qZ5,hr8]
   have hw:qL 6 0 ((8:Nat)-1:Int)=true:=by decide
   rw [hw,show (6:Int).toNat=6 from rfl,oP (by omega),if_pos rfl]
   simp
  rw [hcond]
  cases how:own n with
  | some q =>
   obtain ⟨q1,q2⟩:=(hN n hnl).held q how
   have hqi:q≠i:=fun e=>hno n (by rw [how,e])
   left
   refine ⟨by rw [q2]; decide,?_⟩
   refine h.build hC hN hnl hM' hcod hln hoth h.src (fun _ _=>rfl) (by rw [htr',h.tr]) (.out 2 ?_ hs ?_ ?_ (.inr ⟨hx,.inr (.inl ⟨rfl,?_⟩)⟩) hno) (fun _ _ _=>Iff.rfl) (fun c hc=>hcg c (by omega)) (fun j' hj' _=>⟨fun c e1 e2=>hcg c (by omega),rfl⟩) (fun _ _=>rfl) (fun _ _=>rfl) ?_
   ·rw [hself]
   ·rw [hself]
    show (qJ m i).at_+1=_
    omega
   ·rw [hregs,sL (by omega),hr]
   ·rw [hregs,oP (by omega),if_pos rfl,q2]
    decide
   ·refine (hN n hnl).frame rfl (fun c e1 e2 e3=>by rw [how] at e3; exact absurd e3 (by simp)) (fun _ _=>by rw [hlw,if_pos rfl]) (fun _=>rfl) hln
  | none =>
   obtain ⟨f1,f2,d,f3,f4,f5⟩:=(hN n hnl).free how
   right
   obtain ⟨g1,g2,g3⟩:=qMk h hnl
   obtain ⟨_,_,o4⟩:=F.op hjl
   have hnt:(Go.Sep.ins p s i).n.toNat=n:=by rw [←hxe,hn]; simp
   have hne:(plc p i (thd s i).at_.toNat).op=6∨(plc p i (thd s i).at_.toNat).op=8→(plc p i (thd s i).at_.toNat).r≠(plc p i (thd s i).at_.toNat).b:=fun e=>by
    have hio:=hin
    unfold zD at hio
    intro er
    rcases e with e | e<;>simp [e,er] at hio
   have hgot:Got (qTs (qJ m' i) 2 d true) (thd s i) (chn s n):=by
    refine ⟨rfl,?_,F.regs,?_,rfl,f5.same rfl rfl rfl rfl,g2⟩
    ·show (qJ m' i).regs.take 4=_
     rw [hregs,sL (by omega),hr]
    ·show (qJ m' i).regs.getD 6 0=0
     rw [hregs,oP (by omega),if_pos rfl,f1]
   obtain ⟨e,fl,hso,hend⟩:=qX1 (frm p i (thd s i).at_.toNat) (bs p.caps n) _ _ _ _ hx o4 hne hgot
   rw [g3] at hso
   have hsrc:=sM (p:=p) F.ht hs
   rw [hnt,←hxe,if_neg (by unfold lJ at hx; omega)] at hsrc
   have hstep':((jI p s i=4∧(e.k=0∧fl=false))∨(jI p s i=0∧¬(e.k=0∧fl=false))):=by
    by_cases hwt:e.k=0∧fl=false
    ·left
     have hw:=hend.wait.1 hwt
     refine ⟨?_,hwt⟩
     rw [hsrc,if_neg (by rcases hw.2 with ⟨hh,_⟩ | ⟨hh,_⟩<;>omega),if_pos hw]
    ·right
     refine ⟨?_,hwt⟩
     rw [hsrc]
     split
     ·rfl
     ·rw [if_neg (fun hw=>hwt (hend.wait.2 hw))]
   refine ⟨by rw [f1]; decide,hstep'.elim (fun hh=>.inr hh.1) (fun hh=>.inl hh.1),?_⟩
   have hdo:yY p s i=eC p ⟨s.ths,s.chs.set n (wW (thd s i) (chn s n) (plc p i (thd s i).at_.toNat)).2.1,s.tr⟩ i (wW (thd s i) (chn s n) (plc p i (thd s i).at_.toNat)).1 (wW (thd s i) (chn s n) (plc p i (thd s i).at_.toNat)).2.2 ((thd s i).at_+1):=by
    unfold lJ at hx
    unfold yY
    rw [←hxe,if_neg (by omega),if_neg (by omega),if_neg (by omega),if_neg (by omega),if_neg (by omega),if_neg (by omega),hn,qZh]
    rfl
   have hlast:=F.last hjl (by unfold lJ at hx; omega) (by unfold lJ at hx; omega)
   have hths:=qFj (thd s i) (chn s n) (plc p i (thd s i).at_.toNat)
   have hs' :∃t' c',(wP p s i).1=⟨s.ths.set i t',s.chs.set n c',s.tr⟩∧fT e c'∧(fl=true→t'.st=2)∧(fl=false→t'.st=0∧t'.at_=(if e.k=0 then (thd s i).at_ else (thd s i).at_+1)∧e.low=t'.regs):=by
    rcases hstep' with ⟨q1,q2,q3⟩ | ⟨q1,q2⟩
    ·refine ⟨thd s i,chn s n,?_,hend.ch0 q2 q3,fun e=>by rw [q3] at e; exact absurd e (by decide),fun _=>⟨hs,by rw [if_pos q2],?_⟩⟩
     ·unfold wP
      rw [if_neg (by rw [q1]; decide)]
      unfold thd chn
      rw [wR _ _ _ F.ht,wR _ _ _ g1]
     ·exact (hend.wt q3 (by rw [q2]; omega)).2.1
    ·have hss:(wP p s i).1=yY p s i:=by
      unfold wP
      rw [if_pos q1]
      rfl
     rw [hss,hdo]
     unfold eC
     cases hfl:fl with
     | true =>
      rw [if_pos (.inl (hend.flt hfl))]
      exact ⟨_,_,rfl,hend.ch1 (.inr hfl),fun _=>rfl,fun e=>absurd e (by decide)⟩
     | false =>
      have hk0:e.k≠0:=fun e0=>q2 ⟨e0,hfl⟩
      have hksz:e.k=(wJ (plc p i (thd s i).at_.toNat)).toNat:=by
       apply Classical.byContradiction
       intro hne
       exact hk0 (hend.wt hfl hne).1
      obtain ⟨w1,w2,w3⟩:=hend.nxt hfl hksz
      have hbl2:((p.bods.getD i []).length:Int)=(body p i).length:=rfl
      rw [if_neg (by rw [w2,hbl2]; simp; omega)]
      exact ⟨_,_,rfl,hend.ch1 (.inl hk0),fun e=>absurd e (by decide),fun _=>⟨by rw [hths.2.1]; exact hs,by rw [if_neg hk0],w3⟩⟩
   obtain ⟨t',c',hS,hch,hfl,hgl⟩:=hs'
   have hsrcOk:wO p (wP p s i).1=true:=by
    unfold wP
    split
    ·exact oA h.src F.ht (fun e10=>by have e11:(Go.Sep.ins p s i).op=10:=e10; rw [←hxe] at e11; unfold lJ at hx; omega)
    ·exact h.src
   rw [hS] at hsrcOk⊢
   have hthd :∀q,thd ⟨s.ths.set i t',s.chs.set n c',s.tr⟩ q=if q=i then t' else thd s q:=fun q=>qLp t' F.ht _ _ q
   have hchn :∀q,chn ⟨s.ths.set i t',s.chs.set n c',s.tr⟩ q=if q=n then c' else chn s q:=fun q=>by
    unfold chn
    exact nL _ _ _ _ _ g1
   have hsz40:fC (frm p i (thd s i).at_.toNat) (bs p.caps n) (bD (frm p i (thd s i).at_.toNat) (bs p.caps n) (cp p.caps n) (plc p i (thd s i).at_.toNat)) ((wJ (plc p i (thd s i).at_.toNat)).toNat-2) (qTs (qJ m' i) 2 d true)=some (e,fl):=by
    have:=qDr hso
    have hl2:(bD (frm p i (thd s i).at_.toNat) (bs p.caps n) (cp p.caps n) (plc p i (thd s i).at_.toNat)).length=(wJ (plc p i (thd s i).at_.toNat)).toNat:=by omega
    rw [hl2] at this
    exact this
   have hci:qDf p m' ⟨s.ths.set i t',s.chs.set n c',s.tr⟩ (fun q=>if q=n then some i else own q) i:=by
    refine .inner (thd s i).at_.toNat n _ (qTs (qJ m' i) 2 d true) e fl hjl hx hn (qTr (by rw [hregs,qZ5]; exact hr8) ?_ ?_) ?_ (by decide:1≤2) ?_ hsz40 f3 ?_ ?_ ?_ ?_
    ·rw [hself]
     show (qJ m i).at_+1=_
     omega
    ·rw [hself]
    ·show (!true&&_)=false
     rfl
    ·show (wJ _).toNat-2+2≤_
     omega
    ·rw [hthd,if_pos rfl]; exact hfl
    ·rw [hthd,if_pos rfl]
     intro e0
     obtain ⟨y1,y2,y3⟩:=hgl e0
     refine ⟨y1,?_,y3⟩
     rw [y2,hj]
     simp
    ·intro _
     refine ⟨by simp,⟨?_,?_,?_,fun q hq=>?_⟩,?_,by rw [hchn,if_pos rfl]; exact hch⟩
     ·rw [hlw,if_neg (by omega)]; exact f4.fst
     ·rw [hlw,if_neg (by omega)]; exact f4.cnt
     ·rw [hlw,if_neg (by omega)]; exact f4.cls
     ·rw [hlw,if_neg (by omega)]; exact f4.dat q hq
     ·rw [hself,hcel,hvw]
      exact qQ8 h.mok.mem hK.view (by omega) f2
    ·intro n' e'
     by_cases en:n'=n
     ·exact ⟨en,rfl⟩
     ·exact absurd (by simpa [en] using e') (hno n')
   refine h.build hC hN hnl hM' hcod hln hoth hsrcOk (fun q hq=>by rw [hthd,if_neg hq]) (by rw [htr',h.tr]) hci (fun q hq n'=>?_) (fun c hc=>hcg c (by omega)) (fun q hq e=>by rw [how] at e; exact absurd e (by simp)) (fun q hq=>by rw [hchn,if_neg hq]) (fun q hq=>by simp [hq]) ⟨fun e=>by simp at e,fun q e=>?_⟩
   ·by_cases en:n'=n
    ·subst en
     simp [how,Ne.symm hq]
    ·simp [en]
   ·simp only [if_pos,Option.some.injEq] at e
    subst e
    exact ⟨by omega,by rw [hlw,if_pos rfl]⟩
 ·
  right
  have ht:wD m i=⟨11,0,6,0,frm p i (thd s i).at_.toNat+4⟩:=by rw [hstep 2 (by omega) rfl]; exact hlk.2.2.1
  have hnx:uR (qJ m i) (wD m i)=(qJ m i).at_+1:=by
   rw [ht]
   unfold uR
   simp only
   rw [if_neg (by decide),if_neg (fun e=>h6 e.2)]
  have hm :∀late,yG m ⟨i,late⟩=(jL m i ⟨(qJ m i).at_+1,(qJ m i).regs,(qJ m i).view,0⟩,0):=by
   intro late
   rw [hloc late (by rw [ht]; simp) (by rw [ht]; simp) (by rw [ht]; simp) (by rw [ht]; rfl) (by rw [hnx]; omega),hnx,ht,←hst]
   rfl
  refine ⟨_,hm,.inl ⟨by rw [ht]; simp,?_⟩⟩
  refine h.walk hC hN hi (hm 0) (.out 3 ?_ hs ?_ ?_ (.inr ⟨hx,.inr (.inr rfl)⟩) hno)
  ·rw [bO m i _ hi]
  ·rw [bO m i _ hi]
   show (qJ m i).at_+1=_
   omega
  ·rw [bO m i _ hi]
   exact hr
 ·
  right
  have ht:wD m i=⟨10,0,0,0,frm p i (thd s i).at_.toNat+0⟩:=by rw [hstep 3 (by omega) rfl]; exact hlk.2.2.2
  have hm :∀late,yG m ⟨i,late⟩=(jL m i ⟨frm p i (thd s i).at_.toNat+0,(qJ m i).regs,(qJ m i).view,0⟩,0):=by
   intro late
   rw [hloc late (by rw [ht]; simp) (by rw [ht]; simp) (by rw [ht]; simp) (by rw [ht]; rfl) (by rw [ht]; show frm p i (thd s i).at_.toNat+0<_; omega),ht,←hst]
   rfl
  refine ⟨_,hm,.inl ⟨by rw [ht]; simp,?_⟩⟩
  refine h.walk hC hN hi (hm 0) (.out 0 ?_ hs ?_ ?_ (.inl rfl) hno)
  ·rw [bO m i _ hi]
  ·rw [bO m i _ hi]
   rfl
  ·rw [bO m i _ hi]
   exact hr
theorem Inv.inner {p:wV} {m:qY} {s:wL} {own:Nat→Option Nat} {i:Nat} (h:Inv p m s) (hC :∀i,i<m.cores.length→qDf p m s own i) (hN :∀n,n<p.caps.length→qJ6 p m s own n) (hi:i<m.cores.length)
  {j n N:Nat} {a e:So} {fl:Bool} (hj:j<(body p i).length) (hx:lJ (plc p i j)) (hn:(plc p i j).n=n) (hc:rV (qJ m i) (frm p i j) a) (hst:a.settled (wJ (plc p i j)).toNat=false) (hk1:1≤a.k)
  (hNk:N+a.k≤(wJ (plc p i j)).toNat) (hs:fC (frm p i j) (bs p.caps n) (bD (frm p i j) (bs p.caps n) (cp p.caps n) (plc p i j)) N a=some (e,fl)) (hd:a.dat.length=cp p.caps n)
  (hf:fl=true→(thd s i).st=2) (hg:fl=false→(thd s i).st=0∧(thd s i).at_=(if e.k=0 then (j:Int) else j+1)∧e.low=(thd s i).regs)
  (hh:a.hold=true→own n=some i∧qEz m.mem.cells (bs p.caps n) a∧nW m.mem.cells (bs p.caps n) (cp p.caps n) (qJ m i).view∧fT e (chn s n))
  (ho :∀n',own n'=some i→n'=n∧a.hold=true) :
  (∀late,yG m ⟨i,late⟩=(m,3))∨∃m',(∀late,yG m ⟨i,late⟩=(m',0))∧(wD m i).op≠8∧Inv p m' s∧(1≤N):=by
 have F:=h.fix hi
 obtain ⟨n',hn',hnl,hem,hlen⟩:=F.chan h.lie hj hx
 obtain rfl:n'=n:=by omega
 obtain ⟨c1,c2,c3,c4,c5⟩:=cC h.lie hnl
 have hl2:(bD (frm p i j) (bs p.caps n') (cp p.caps n') (plc p i j)).length=(wJ (plc p i j)).toNat:=by omega
 rw [←hl2] at hst
 obtain ⟨hk,M,rfl,hcase⟩:=iJ hs hst
 have hko:(a.k:Int)<wJ (plc p i j):=by omega
 have hstep:=(F.step h.lie hj (k:=a.k) hko hc.at_).1
 rw [hem] at hstep
 rw [←hstep] at hcase
 have hlt:=F.frm_lt h.lie hj
 have hf0:=qQ0 p i j
 have hj1:j+1<(body p i).length:=F.last hj (by unfold lJ at hx; omega) (by unfold lJ at hx; omega)
 have hlt2:=F.frm_lt2 h.lie hj1
 rw [qD0 hj] at hlt2
 rcases hcase with ⟨a',h1,h2,h3⟩ | ⟨a',h1,h2,h3⟩
 ·
  have hak:a'.k≤(wJ (plc p i j)).toNat:=by
   cases hs':a'.settled (bD (frm p i j) (bs p.caps n') (cp p.caps n') (plc p i j)).length
   ·have:=(iJ h3 hs').1
    omega
   ·simp only [So.settled,qXo,qXz,decide_eq_true_eq] at hs'
    omega
  have hdl:=qS6 h1
  rcases qWt h.mok hi hc (fun e0=>by obtain ⟨_,y1,y2,_⟩:=hh e0; exact ⟨y1,by rw [hd]; exact y2⟩) (by omega) h1 (by omega) hf0 with hfu | ⟨m',hm,A⟩
  ·exact .inl hfu
  right
  refine ⟨m',hm,(qTq h1).1,?_,by omega⟩
  have hM':MOk m':=by
   have:=mL ⟨i,0⟩ ((jM m).2 h.mok)
   rw [hm] at this
   exact (jM _).1 this
  have A7:=A.held
  have A8:=A.free
  have A9:=A.out
  rw [hd] at A7 A8 A9
  have hown :∃own':Nat→Option Nat,own'=fun q=>if q=n'∧a.hold=true then (if a'.hold=true then some i else none) else own q:=⟨_,rfl⟩
  obtain ⟨own',hown⟩:=hown
  have hone :∀q,own' q=some i→q=n'∧a'.hold=true:=by
   intro q e0
   rw [hown] at e0
   simp only at e0
   split at e0
   ·rename_i hq
    split at e0
    ·rename_i ht
     exact ⟨hq.1,ht⟩
    ·exact absurd e0 (by simp)
   ·rename_i hq
    exact absurd (ho q e0) hq
  have hci:qDf p m' s own' i:=by
   cases hs':a'.settled (bD (frm p i j) (bs p.caps n') (cp p.caps n') (plc p i j)).length
   ·rw [hl2] at hs'
    refine .inner j n' _ a' e fl hj hx hn A.core hs' ?_ ?_ (qDr h3) (by rw [hdl,hd]) hf hg ?_ hone
    ·rcases h2 with h2 | ⟨h2,h5⟩
     ·omega
     ·exfalso
      simp [So.settled,h2,h5] at hs'
    ·omega
    ·intro hold'
     obtain ⟨z1,z2,z3,z4⟩:=A7 hold'
     refine ⟨?_,z2,z3,(hh z1).2.2.2⟩
     rw [hown]
     simp [z1,hold']
   ·rw [uU hs'] at h3
    simp only [Option.some.injEq,Prod.mk.injEq] at h3
    obtain ⟨rfl,rfl⟩:=h3
    obtain ⟨y1,y2,y3⟩:=hg rfl
    simp only [So.settled,qXo,qXz,decide_eq_true_eq,Bool.not_eq_true'] at hs'
    refine .out 0 A.core.st y1 ?_ ?_ (.inl rfl) (fun q e0=>by have:=(hone q e0).2; rw [hs'.1] at this; exact absurd this (by decide))
    ·rw [A.core.at_,y2]
     rcases hs'.2 with h0 | h0
     ·rw [if_pos h0,h0]
      simp
     ·rw [hl2] at h0
      have:=F.size hj
      rw [if_neg (by omega),show ((j:Int)+1).toNat=j+1 by omega,qD0 hj]
      omega
    ·rw [A.core.regs,←y3]
     rw [List.take_append_of_le_length (by rw [A.core.low]; omega),qXx (by rw [A.core.low]; omega)]
  by_cases hhold:a.hold=true
  ·obtain ⟨y1,y2,y3,y4⟩:=hh hhold
   refine h.build hC hN hnl hM' A.codes A.len A.other h.src (fun _ _=>rfl) (by rw [A.tr,h.tr]) hci (fun q hq n2=>?_) (fun c hc'=>A9 c (by omega)) (fun q hq e0=>by rw [y1] at e0; simp only [Option.some.injEq] at e0; exact absurd e0.symm hq) (fun _ _=>rfl) (fun q hq=>by rw [hown]; simp [hq]) ?_
   ·rw [hown]
    simp only
    split
    ·rename_i hq2
     rw [hq2.1,y1]
     split<;>simp [Ne.symm hq]
    ·exact Iff.rfl
   ·cases hh':a'.hold with
    | true =>
     have ow:own' n'=some i:=by rw [hown]; simp [hhold,hh']
     refine ⟨fun e0=>by rw [ow] at e0; exact absurd e0 (by simp),fun q e0=>?_⟩
     rw [ow] at e0
     simp only [Option.some.injEq] at e0
     subst e0
     refine ⟨by rw [A.len]; exact hi,?_⟩
     have:=((hN n' hnl).held i y1).2
     unfold jD at this⊢
     rw [(A7 hh').2.2.2]
     exact this
    | false =>
     have ow:own' n'=none:=by rw [hown]; simp [hhold,hh']
     obtain ⟨x1,x2,x3⟩:=A8 hhold hh'
     obtain ⟨k1,k2,k3,k4,k5⟩:=qKa h3 hh'
     refine ⟨fun _=>⟨x1,x3,a',by rw [hdl,hd],x2,y4.same k4.symm k1.symm k2.symm k3.symm⟩,fun q e0=>by rw [ow] at e0; exact absurd e0 (by simp)⟩
  ·have hhf:a.hold=false:=by simpa using hhold
   have hmem:=A.none hhf
   have howe:own'=own:=by rw [hown]; funext q; simp [hhf]
   rw [howe] at hci
   refine ⟨hM',by rw [A.codes,h.codes],h.prog,h.lie,h.src,by rw [A.tr,h.tr],own,fun q hq=>?_,fun q hq=>?_⟩
   ·by_cases e0:q=i
    ·rw [e0]; exact hci
    ·exact (hC q (by rw [A.len] at hq; exact hq)).frame (A.other q e0) rfl (fun _=>Iff.rfl) (fun _ _=>⟨fun _ _ _=>by rw [hmem],rfl⟩)
   ·refine (hN q hq).frame rfl (fun _ _ _ _=>by rw [hmem]) (fun q' e0=>?_) (fun _=>rfl) A.len
    rw [hmem]
    exact ((hN q hq).held q' e0).2
 ·
  obtain ⟨h13,rfl⟩:=qPe h1
  simp only [Prod.mk.injEq] at h3
  obtain ⟨rfl,rfl⟩:=h3
  right
  have hm:=fun late=>@qNs m i late hi hc.st h13
  refine ⟨_,hm,by omega,?_,by omega⟩
  refine h.walk hC hN hi (hm 0) (.over ?_ ?_ (fun q e0=>by have:=(ho q e0).2; rw [h2] at this; exact absurd this (by decide)))
  ·rw [bO m i _ hi]
   exact (by decide:(2:Int)≠0)
  ·rw [bO m i _ hi]
   exact hf rfl
theorem Inv.step {p:wV} {m:qY} {s:wL} {i:Nat} (h:Inv p m s) (hi:i<m.cores.length) :
  (∀late,yG m ⟨i,late⟩=(m,3))∨∃m',(∀late,yG m ⟨i,late⟩=(m',0))∧
   ((zT p (wD m i) (qJ m' i).regs i (qJ m i).at_=false∧Inv p m' s)∨
    (zT p (wD m i) (qJ m' i).regs i (qJ m i).at_=true∧(jI p s i=0∨jI p s i=4)∧Inv p m' (wP p s i).1)):=by
 obtain ⟨own,hC,hN⟩:=h.own
 have F:=h.fix hi
 cases hC i hi with
 | over hst hs ho =>
  left
  intro late
  refine mM ?_
  rw [lU hi,if_pos (.inl hst)]
 | out k hst hs ha hr hk hno =>
  by_cases hx:lJ (plc p i (thd s i).at_.toNat)
  ·have hsz:=kA hx
   have hk':k=0∨k=1∧(qJ m i).regs.getD 7 0=1∨k=2∧(qJ m i).regs.getD 6 0≠0∨k=3:=by
    rcases hk with hk | ⟨_,hk⟩
    ·exact .inl hk
    ·exact .inr hk
   rcases h.spin hC hN hi hst hs ha hr hno hx hk' with hfu | ⟨m',hm,hh⟩
   ·exact .inl hfu
   right
   refine ⟨m',hm,?_⟩
   rw [F.commits h.lie F.at1 (k:=k) (by omega) ha]
   have h1:decide (wJ (plc p i (thd s i).at_.toNat)=1)=false:=by simp; omega
   rw [h1,Bool.or_false]
   exact hh
  ·have hk0:k=0:=by
    rcases hk with hk | ⟨hk,_⟩
    ·exact hk
    ·exact absurd hk hx
   subst hk0
   have hone:=F.one h.lie F.at1 hx
   rcases h.single hC hN hi hst hs (by rw [ha]; simp) hr hno hx with hfu | ⟨m',hm,h0,hI⟩
   ·exact .inl hfu
   right
   refine ⟨m',hm,.inr ⟨?_,.inl h0,?_⟩⟩
   ·rw [F.commits h.lie F.at1 (k:=0) (by rw [hone.2]; decide) ha,hone.2]
    simp
   ·unfold wP
    rw [if_pos h0]
    exact hI
 | inner j n N a e fl hj hx hn hc hst hk1 hNk hs hd hf hg hh ho =>
  rcases h.inner hC hN hi hj hx hn hc hst hk1 hNk hs hd hf hg hh ho with hfu | ⟨m',hm,h8,hI,_⟩
  ·exact .inl hfu
  right
  refine ⟨m',hm,.inl ⟨?_,hI⟩⟩
  have hsz:=kA hx
  rw [F.commits h.lie hj (k:=a.k) (by omega) hc.at_]
  have h1:decide (wJ (plc p i j)=1)=false:=by simp; omega
  have h2:decide ((wD m i).op=8)=false:=by simpa using h8
  rw [h1,h2]
  rfl
theorem qHo {c:Nat} (h:c<24):qFr.getD c []=[w00]:=by
 unfold qFr
 rw [qXq,List.getElem?_replicate,if_pos h]
 rfl
theorem oW {c:Nat} (h:c<24):jD qFr c=0:=by
 unfold jD
 rw [qHo h]
 rfl
theorem Inv.launch {p:wV} (h:(launch p).2=true):Inv p (Go.Sep.launch p).1 (vD p).1:=by
 obtain ⟨h1,h2,h3,h4⟩:=hX h
 have hM:=(jM _).1 h4
 have hm:(Go.Sep.launch p).1=dH (p.bods.map (comp p.caps)):=by
  unfold Go.Sep.launch at h h4 h3⊢
  split
  ·rename_i hc
   rw [if_pos hc] at h h3 h4
   unfold dV at h h3 h4⊢
   split
   ·rename_i hk
    rw [if_pos hk] at h3
    have:(gG p).1=p.bods.map (comp p.caps):=h3
    rw [this]
   ·rename_i hk
    rw [if_neg hk] at h
    exact absurd h (by simp)
  ·rename_i hc
   rw [if_neg hc] at h
   exact absurd h (by simp)
 have hs:(vD p).1=⟨qXi p.bods.length eM,p.caps.map fun c=>⟨c,[],false⟩,[]⟩:=by
  unfold vD
  rw [if_pos h1]
 have hso:wO p (vD p).1=true:=cD h1
 have hcl:(Go.Sep.launch p).1.cores.length=p.bods.length:=by rw [hm]; simp [dH]
 refine ⟨hM,h3,h1,h2,hso,by rw [hm,hs]; rfl,fun _=>none,fun i hi=>?_,fun n hn=>⟨fun _=>?_,fun i e=>absurd e (by simp)⟩⟩
 ·have hi':i<p.bods.length:=by omega
  have hc:qJ (Go.Sep.launch p).1 i=k00:=by
   rw [hm]
   unfold qJ dH
   simp [qXq,hi']
  have ht:thd (vD p).1 i=eM:=by
   rw [hs]
   unfold thd
   simp [qXq,hi']
  refine .out 0 (by rw [hc]; rfl) (by rw [ht]; rfl) ?_ (by rw [hc,ht]; rfl) (.inl rfl) (fun _=>by simp)
  rw [hc,ht]
  show (0:Int)=frm p i 0+0
  simp [frm,szB]
 ·obtain ⟨c1,c2,c3,c4,c5⟩:=cC h2 hn
  have hcs:(Go.Sep.launch p).1.mem.cells=qFr:=by rw [hm]; rfl
  have hch:chn (vD p).1 n=⟨p.caps.getD n 0,[],false⟩:=by
   rw [hs]
   unfold chn
   simp [qXq,hn]
  rw [hcs,hch]
  refine ⟨oW (by omega),?_,⟨0,[],0,0,0,0,0,0,0,qXi (cp p.caps n) 0,false⟩,by simp,⟨oW (by omega),oW (by omega),oW (by omega),fun j hj=>?_⟩,?_⟩
  ·rw [qHo (by omega)]
   intro j hj1 hj2
   rw [qHo (by omega)]
   show z24.getD (bs p.caps n+j) 0=_
   unfold z24
   rw [qH0]
   rfl
  ·simp only [qZe] at hj
   rw [oW (by omega)]
   exact (qH0 _ _ _).symm
  ·refine ⟨?_,?_,?_,?_,Int.le_refl _,?_,rfl,rfl,fun j hj=>absurd hj (Nat.not_lt_zero _)⟩
   ·show ((qXi (cp p.caps n) (0:Int)).length:Int)=p.caps.getD n 0
    rw [qZe,c2]
   ·show 1≤p.caps.getD n 0
    omega
   ·show p.caps.getD n 0≤4
    omega
   ·show ((0:Nat):Int)≤p.caps.getD n 0
    omega
   ·show 0<p.caps.getD n 0
    omega
theorem qE9 {m:qY} {x:uF} (h :¬(0≤x.who∧x.who.toNat<m.cores.length)):yG m x=(m,2):=by
 have hc:aM m x.who=2:=by
  unfold aM
  have hw:qL x.who 0 ((m.cores.length:Int)-1)=false:=by
   cases hh:qL x.who 0 ((m.cores.length:Int)-1)
   ·rfl
   ·rw [qO] at hh
    exact absurd ⟨hh.1,by omega⟩ h
  rw [hw]
  rfl
 unfold yG
 rw [hc,if_neg (by decide)]
theorem Inv.late {p:wV} {m:qY} {s:wL} (h:Inv p m s) (x:uF):yG m x=yG m ⟨x.who,0⟩:=by
 by_cases hw:0≤x.who∧x.who.toNat<m.cores.length
 ·obtain ⟨who,late⟩:=x
  simp only at hw⊢
  obtain ⟨i,rfl⟩:=qZl hw.1
  rcases h.step (i:=i) (by simpa using hw.2) with h1 | ⟨m',h1,_⟩<;>rw [h1 late,h1 0]
 ·rw [qE9 hw,qE9 (x:=⟨x.who,0⟩) hw]
theorem Inv.pick {p:wV} {m:qY} {s:wL} (h:Inv p m s) (x:uF):(did p m x=false∧Inv p (yG m x).1 s)∨(did p m x=true∧(jI p s x.who=0∨jI p s x.who=4)∧Inv p (yG m x).1 (wP p s x.who).1):=by
 by_cases hw:0≤x.who∧x.who.toNat<m.cores.length
 ·obtain ⟨who,late⟩:=x
  simp only at hw⊢
  obtain ⟨i,rfl⟩:=qZl hw.1
  rcases h.step (i:=i) (by simpa using hw.2) with h1 | ⟨m',h1,hh⟩
  ·left
   have hh:=h1 late
   refine ⟨?_,by rw [hh]; exact h⟩
   unfold did
   rw [hh]
   rfl
  ·have hd:did p m ⟨(i:Int),late⟩=zT p (wD m i) (qJ m' i).regs i (qJ m i).at_:=by
    unfold did
    rw [h1 late]
    simp
   rw [hd,h1 late]
   exact hh
 ·left
  have hh:=qE9 hw
  refine ⟨?_,by rw [hh]; exact h⟩
  unfold did
  rw [hh]
  rfl
def qPc (p:wV):wL→List Int→wL
 | s,[]=>s
 | s,x::l=>qPc p (wP p s x).1 l
def oC (p:wV):wL→List Int→List Int
 | _,[]=>[]
 | s,x::l=>(wP p s x).2::oC p (wP p s x).1 l
theorem qR7 (p:wV) :∀(l:List Int) (s:wL) (c:List Int),l.foldl (uT p) (s,c)=(qPc p s l,c++oC p s l)
 | [],s,c=>by simp [qPc,oC]
 | x::l,s,c=>by
  simp only [List.foldl_cons,uT,qPc,oC]
  rw [qR7 p l]
  simp
theorem qAq (p:wV) :∀(l:List Int) (s:wL),(oC p s l).length=l.length
 | [],_=>rfl
 | x::l,s=>by simp only [oC,List.length_cons,qAq p l]
theorem qS1 {p:wV} {s:wL} {who:Int}:(wP p s who).2=jI p s who:=by
 unfold wP
 split
 ·rename_i h; exact h.symm
 ·rfl
theorem Inv.run {p:wV} :∀(l:List uF) {m:qY} {s:wL},Inv p m s→Inv p (cO m l) (qPc p s (bP p m l))∧∀c∈oC p s (bP p m l),c=0∨c=4
 | [],m,s,h=>⟨h,by simp [bP,oC]⟩
 | x::l,m,s,h=>by
  rcases h.pick x with ⟨h1,h2⟩ | ⟨h1,h2,h3⟩
  ·simp only [cO,bP,h1]
   exact Inv.run l h2
  ·obtain ⟨g1,g2⟩:=Inv.run l h3
   simp only [cO,bP,h1,if_true,List.cons_append,List.nil_append,qPc,oC]
   refine ⟨g1,fun c hc=>?_⟩
   rcases List.mem_cons.1 hc with rfl | hc
   ·rw [qS1]; exact h2
   ·exact g2 c hc
theorem Inv.runLate {p:wV} :∀(l:List uF) {m:qY} {s:wL} (k:List uF),Inv p m s→l.map (·.who)=k.map (·.who)→cO m l=cO m k∧bP p m l=bP p m k
 | [],m,s,k,h,he=>by
  have:k=[]:=by cases k<;>simp_all
  subst this
  exact ⟨rfl,rfl⟩
 | x::l,m,s,k,h,he=>by
  cases k with
  | nil=>simp at he
  | cons y k =>
   simp only [List.map_cons,List.cons.injEq] at he
   have hx:=h.late x
   have hy:=h.late y
   rw [←he.1] at hy
   have hxy:yG m x=yG m y:=by rw [hx,hy]
   have hd:did p m x=did p m y:=by unfold did; rw [hxy,he.1]
   have hI :∃s',Inv p (yG m x).1 s':=by
    rcases h.pick x with ⟨_,h2⟩ | ⟨_,_,h3⟩
    ·exact ⟨_,h2⟩
    ·exact ⟨_,h3⟩
   obtain ⟨s',hI⟩:=hI
   obtain ⟨g1,g2⟩:=Inv.runLate l k hI he.2
   simp only [cO,bP]
   rw [g1,g2,hxy,hd,he.1]
   exact ⟨rfl,rfl⟩
theorem qT6 {cs:List (List wY)} {b:Nat} {a:So} {c:bS} (hd:qEz cs b a) (h:fT a c):nP cs b c.cap a.fst c.list.length=c.list:=by
 apply List.ext_getElem (lP _ _ _ _ _)
 intro j h1 h2
 have h3:=h.at_ j h2
 have hm:((a.fst+(j:Int))%c.cap).toNat<a.dat.length:=by
  have:=h.cap
  have:=h.cap1
  have:=Int.emod_nonneg (a.fst+(j:Int)) (b:=c.cap) (by omega)
  have:=Int.emod_lt_of_pos (a.fst+(j:Int)) (b:=c.cap) (by omega)
  omega
 simp only [nP,List.getElem_map,List.getElem_range]
 rw [hd.dat _ hm,←h3]
 simp [qXq,h2]
theorem qQb {cs:List (List wY)} {b:Nat} {a:So} {c:bS} (hd:qEz cs b a) (h:fT a c):zU cs b c.cap=(c,true):=by
 unfold zU
 have e1:qL a.fst 0 (c.cap-1)=true:=by rw [qO]; have:=h.fst0; have:=h.fst1; omega
 have e2:qL a.cnt 0 c.cap=true:=by rw [qO]; have:=h.cnt; have:=h.len; omega
 have e3:qL a.cls 0 1=true:=by rw [h.cls]; cases c.closed<;>rfl
 rw [hd.fst,hd.cnt,hd.cls,e1,e2,e3,h.cnt,qZh,qT6 hd h]
 have e4:decide (a.cls=1)=c.closed:=by rw [h.cls]; cases c.closed<;>rfl
 rw [e4]
 rfl
theorem Inv.chan {p:wV} {m:qY} {s:wL} (h:Inv p m s) {n:Nat} (hn:n<p.caps.length):uB m.mem.cells p.caps n=true∨(uB m.mem.cells p.caps n=false∧uC m.mem.cells p.caps n=(chn s n,true)):=by
 obtain ⟨own,hC,hN⟩:=h.own
 obtain ⟨c1,c2,c3,c4,c5⟩:=cC h.lie hn
 have hmo:=(cG _).2 h.mok.mem
 have hb:base p.caps n=bs p.caps n:=c1
 unfold uB
 rw [hb,hmo,qZh]
 have d:decide ((0:Int)≤(bs p.caps n:Int))=true:=by simp
 rw [d]
 cases how:own n with
 | some i =>
  left
  rw [((hN n hn).held i how).2]
  rfl
 | none =>
  right
  obtain ⟨f1,f2,a,f3,f4,f5⟩:=(hN n hn).free how
  refine ⟨by rw [f1]; rfl,?_⟩
  unfold uC
  rw [hb,hmo,qZh]
  have d2:decide ((bs p.caps n:Int)<0)=false:=by simp
  rw [d2]
  have hcap:=(qMk h hn).2.2
  simp only [Bool.not_false,Bool.and_self,if_true,qZh]
  rw [c2,←hcap]
  exact qQb f4 f5
theorem qJv {p:wV} {m:qY} {s:wL} {i:Nat} (h:Inv p m s) (hi:i<m.cores.length):vJ p m s i=true:=by
 obtain ⟨own,hC,hN⟩:=h.own
 have F:=h.fix hi
 have hK:=h.mok.core i hi
 have hw1:qL (i:Int) 0 ((m.cores.length:Int)-1)=true:=by rw [qO]; omega
 have hw2:decide ((i:Int)<(s.ths.length:Int))=true:=by have:=F.ht; simp; omega
 have hpl:vN p i (qJ m i).at_=jR (body p i) 0 0 (qJ m i).at_:=by
  unfold vN
  have hw:qL (i:Int) 0 ((p.bods.length:Int)-1)=true:=by have:=F.hb; rw [qO]; omega
  rw [h.prog,hw]
  rfl
 have hres:vJ p m s i=(if (vN p i (qJ m i).at_).1<0∨(qJ m i).regs.length<4∨(thd s i).regs.length<4 then false
  else if (qJ m i).st≠0 then decide ((thd s i).st=(qJ m i).st)
  else if (vN p i (qJ m i).at_).2 then decide ((thd s i).st=0)&&decide ((thd s i).at_=(vN p i (qJ m i).at_).1)&&decide ((qJ m i).regs.take 4=(thd s i).regs.take 4)
  else true):=by
  simp only [vJ,hw1,hw2,Bool.and_self,if_true,qZh]
  rfl
 have hat0:=hK.at0
 have hat1:=hK.at1
 rw [F.code] at hat1
 have hcomp:=qRq F.bok h.lie hat0 hat1
 have hp0 :¬((vN p i (qJ m i).at_).1<0∨(qJ m i).regs.length<4∨(thd s i).regs.length<4):=by
  rw [hpl]
  have:=hcomp.1
  have:=hK.regs
  have:=F.regs
  omega
 rw [hres,if_neg hp0]
 cases hC i hi with
 | over hst hs ho=>rw [if_pos hst,hs]; simp
 | out k hst hs ha hr hk hno =>
  rw [if_neg (by simp [hst])]
  have hkz:(k:Int)<wJ (plc p i (thd s i).at_.toNat):=by
   rcases hk with rfl | ⟨hx,hk⟩
   ·have:=F.size F.at1; omega
   ·have:=kA hx; omega
  have:=(F.step h.lie F.at1 hkz ha).2
  rw [hpl,this]
  by_cases hk0:k=0
  ·have hrl:(thd s i).regs.take 4=(thd s i).regs:=qXx (by rw [F.regs]; exact qXn _)
   have:=F.at0
   simp only [hk0,decide_true,if_true]
   rw [hs,hr,hrl,Int.toNat_of_nonneg F.at0]
   simp
  ·simp [hk0]
 | inner j n N a e fl hj hx hn hc hst hak hNk hs hd hf hg hh ho =>
  rw [if_neg (by simp [hc.st])]
  obtain ⟨n',hn',hnl,hem,hlen⟩:=F.chan h.lie hj hx
  have hkl:(a.k:Int)<wJ (plc p i j):=by
   obtain rfl:n'=n:=by omega
   have hl2:(bD (frm p i j) (bs p.caps n') (cp p.caps n') (plc p i j)).length=(wJ (plc p i j)).toNat:=by omega
   rw [←hl2] at hst
   have:=(iJ hs hst).1
   omega
  have:=(F.step h.lie hj hkl hc.at_).2
  rw [hpl,this]
  simp [show¬a.k=0 by omega]
theorem Inv.same {p:wV} {m:qY} {s:wL} (h:Inv p m s):same p m s=true:=by
 have hs:=(dF p s).1 h.src
 have hl:m.codes.length=p.bods.length:=by rw [h.codes,qZf]
 have hc:=h.mok.cores
 unfold Go.Sep.same
 rw [h.prog,(jM m).2 h.mok,h.src,decide_eq_true (show m.cores.length=s.ths.length by omega),decide_eq_true h.tr]
 have h1:(qZg m.cores.length).all (fun i=>vJ p m s i)=true:=by
  rw [oS]
  exact fun i hi=>qJv h hi
 have h2:(qZg p.caps.length).all (fun n=>vQ p m s n)=true:=by
  rw [oS]
  intro n hn
  obtain ⟨g1,g2,g3⟩:=qMk h hn
  unfold vQ
  have hw:qL (n:Int) 0 ((p.caps.length:Int)-1)=true:=by rw [qO]; omega
  rw [hw,decide_eq_true (show (n:Int)<s.chs.length by omega)]
  rcases h.chan hn with hk | ⟨hk,hc⟩
  ·rw [hk]; rfl
  ·rw [hk,hc,qZh]
   show (false||(true&&decide ((chn s n).cap=(chn s n).cap)&&decide ((chn s n).list=(chn s n).list)&&decide ((chn s n).closed=(chn s n).closed)))=true
   simp
 rw [h1,h2]
 rfl
theorem qLm {p:wV} {l:List uF} (h:(wU p l).2.2=true):Inv p (wU p l).2.1 (lC p (wU p l).1).1∧nI (lC p (wU p l).1).2=true∧(lC p (wU p l).1).2.length=(wU p l).1.length:=by
 obtain ⟨h1,h2,h3,h4,h5,h6⟩:=cU h
 have hz:=(fL p l).1
 have hI:=Inv.launch h4
 obtain ⟨g1,g2⟩:=hI.run l
 have hj:lC p (wU p l).1=(qPc p (vD p).1 (wU p l).1,oC p (vD p).1 (wU p l).1):=by
  unfold lC gY
  rw [cD h1,decide_eq_true (show ((wU p l).1.length:Int)≤4000 by omega)]
  show (wU p l).1.foldl (uT p) ((vD p).1,[])=_
  rw [qR7]
  rfl
 rw [hj]
 have e1:(wU p l).1=bP p (launch p).1 l:=by rw [h5]
 have e2:(wU p l).2.1=cO (launch p).1 l:=by rw [h5]
 rw [e1,e2]
 refine ⟨g1,?_,qAq p _ _⟩
 unfold nI
 rw [List.all_eq_true]
 intro c hc
 rcases g2 c hc with rfl | rfl<;>rfl
theorem qAv (p:wV) (l:List uF):iN p l=(wU p l).2.2:=by
 unfold iN
 cases h:(wU p l).2.2
 ·rfl
 ·obtain ⟨h1,h2,_⟩:=qLm h
  rw [h2,decide_eq_true h1.tr]
  rfl
theorem qCt (p:wV) (l:List uF):lV p l=(wU p l).2.2:=by
 unfold lV
 cases h:(wU p l).2.2
 ·rfl
 ·rw [(qLm h).1.same]
  rfl
theorem qAw (p:wV) (l:List uF):iO p l=(wU p l).2.2:=by
 unfold iO
 cases h:(wU p l).2.2
 ·rfl
 ·have h1:=(qLm h).1
  have:(qZg p.caps.length).all (fun n=>(uC (wU p l).2.1.mem.cells p.caps (n:Int)).2||uB (wU p l).2.1.mem.cells p.caps (n:Int))=true:=by
   rw [oS]
   intro n hn
   rcases h1.chan hn with hk | ⟨_,hc⟩
   ·rw [hk,Bool.or_true]
   ·rw [hc]
    rfl
  rw [this]
  rfl
theorem qLl {p:wV} {l k:List uF} (h:l.map (·.who)=k.map (·.who)):wU p l=wU p k:=by
 have hl:l.length=k.length:=by have:=congrArg List.length h; simpa using this
 unfold wU
 rw [hl]
 cases ho:(launch p).2
 ·rfl
 ·obtain ⟨a,b⟩:=(Inv.launch ho).runLate l k h
  rw [a,b]
end Go.Sep
