/- Contracts of functions. -/
import Derived.Test.YtbfklilhgekabaaNxx13
import Derived.Test.YtbfklilhgekabaaNxx19
open Bool renaming and_eq_true → qX9
open List renaming foldl_cons → qZ4, foldl_nil → qZi, getD_eq_getElem?_getD → qXb, length_set → qYq, mem_singleton → qXq, replicate → qX3
namespace Go.Sep
set_option maxHeartbeats 16000000
open Go.Proofs
set_option linter.unusedSimpArgs false
set_option linter.unusedVariables false
set_option maxRecDepth 100000
def qFt (x:Ins):Bool:=decide (5≤x.op)&&decide (x.op≤9)
def qFy (x:Ins) (regs:List Int) (c:vA):List Int :=
 if x.op=1 then regs.set x.r.toNat x.n
 else if x.op=2∨x.op=3∨x.op=4 then regs.set x.r.toNat (uC x.op (regs.getD x.a.toNat 0) (regs.getD x.b.toNat 0))
 else if qFt x then (qV ⟨0,regs,0⟩ c x).1.regs
 else regs
def qT8 (x:Ins) (regs:List Int) (at_:Int):Int:=if x.op=11 then x.n else if x.op=12 then (if regs.getD x.a.toNat 0=0 then x.n else at_+1) else at_+1
def qUz (x:Ins) (regs:List Int) (chs:List vA):List vA:=if qFt x then chs.set x.n.toNat (qV ⟨0,regs,0⟩ (chs.getD x.n.toNat default) x).2.1 else chs
def qEc (x:Ins) (regs:List Int) (c:vA):Bool:=if qFt x then (qV ⟨0,regs,0⟩ c x).2.2 else true
def qUy (i:Nat) (x:Ins) (regs:List Int) (tr:List gM):List gM:=if x.op=10 then tr++[⟨i,regs.getD x.a.toNat 0⟩] else tr
theorem qG2 (t:yT) (c:vA) (x:Ins):(qV t c x).1=⟨t.at_,(qV ⟨0,t.regs,0⟩ c x).1.regs,t.st⟩∧(qV t c x).2=(qV ⟨0,t.regs,0⟩ c x).2:=by
 unfold qV reg wU
 repeat' split
 all_goals exact ⟨rfl,rfl⟩
theorem qNc {p:yM} {s:qW} {i:Nat} (hop:1≤(ins p s i).op∧(ins p s i).op≤13):wQ p s i =
  if (ins p s i).op=13 then ⟨s.ths.set i ⟨(thd s i).at_,(thd s i).regs,1⟩,s.chs,s.tr⟩
  else vV p ⟨s.ths,qUz (ins p s i) (thd s i).regs s.chs,qUy i (ins p s i) (thd s i).regs s.tr⟩ i ⟨(thd s i).at_,qFy (ins p s i) (thd s i).regs (chn s (ins p s i).n.toNat),(thd s i).st⟩ (qEc (ins p s i) (thd s i).regs (chn s (ins p s i).n.toNat)) (qT8 (ins p s i) (thd s i).regs (thd s i).at_):=by
 have hth:s.ths.getD i default=thd s i:=rfl
 have hcs:s.chs.getD (ins p s i).n.toNat default=chn s (ins p s i).n.toNat:=rfl
 unfold wQ
 rw [hth,hcs]
 generalize ins p s i=x at *
 generalize hT:thd s i=t at *
 unfold qUz qUy qFy qEc qT8 qFt wU reg
 rw [hcs]
 have hcase:x.op=1∨x.op=2∨x.op=3∨x.op=4∨x.op=10∨x.op=11∨x.op=12∨x.op=13∨(5≤x.op∧x.op≤9):=by omega
 rcases hcase with h | h | h | h | h | h | h | h | h
 all_goals (first
  | (simp [h,-qXb]; done)
  | (
   rw [if_neg (by omega),if_neg (by omega),if_neg (by omega),if_neg (by omega),if_neg (by omega),if_neg (by omega),if_neg (by omega)]
   obtain ⟨e1,e2⟩:=qG2 t (chn s x.n.toNat) x
   rw [e1,e2]
   have hb:(decide (5≤x.op)&&decide (x.op≤9))=true:=by simp [h]
   simp only [hb,if_true]
   rw [if_neg (by omega),if_neg (by omega),if_neg (by omega),if_neg (by omega),if_neg (by omega)]))
inductive qPb (p:yM) (s:qW) (i:Nat):qW→Prop where
 | ended (h:(ins p s i).op=13):qPb p s i ⟨s.ths.set i ⟨(thd s i).at_,(thd s i).regs,1⟩,s.chs,s.tr⟩
 | fault (h:qEc (ins p s i) (thd s i).regs (chn s (ins p s i).n.toNat)=false):qPb p s i ⟨s.ths.set i ⟨(thd s i).at_,qFy (ins p s i) (thd s i).regs (chn s (ins p s i).n.toNat),2⟩,qUz (ins p s i) (thd s i).regs s.chs,qUy i (ins p s i) (thd s i).regs s.tr⟩
 | next (n:Nat) (h:qEc (ins p s i) (thd s i).regs (chn s (ins p s i).n.toNat)=true) (h13:(ins p s i).op≠13) (hn:qT8 (ins p s i) (thd s i).regs (thd s i).at_=n) (hl:n<(body p i).length) (hm:(n:Int)∈yF (body p i) (thd s i).at_.toNat) :
   qPb p s i ⟨s.ths.set i ⟨n,qFy (ins p s i) (thd s i).regs (chn s (ins p s i).n.toNat),(thd s i).st⟩,qUz (ins p s i) (thd s i).regs s.chs,qUy i (ins p s i) (thd s i).regs s.tr⟩
theorem qL8 {p:yM} {s:qW} {i:Nat} (h:wG p s=true) (hi:i<s.ths.length):qPb p s i (wQ p s i):=by
 have hs:=(yU p s).1 h
 have hA:=qF0 h hi
 have hb:=(mQ hs.1).2.2.2.2 _ (yR p.bods i [] hA.hb)
 have hop:=hA.op
 have hat0:=hA.at0
 have hat1:=hA.at1
 rw [qNc hop]
 split
 ·rename_i h13
  exact .ended h13
 rename_i h13
 unfold vV
 cases hok:qEc (ins p s i) (thd s i).regs (chn s (ins p s i).n.toNat)
 ·rw [if_pos (.inl rfl)]
  exact .fault hok
 have hlast:(ins p s i).op≠11→(thd s i).at_.toNat+1<(p.bods.getD i []).length:=by
  intro h11
  have hb2:=hb
  unfold wV xU at hb2
  simp only [qX9,Bool.or_eq_true,decide_eq_true_eq] at hb2
  rcases Nat.lt_or_ge ((thd s i).at_.toNat+1) (p.bods.getD i []).length with hh | hh
  ·exact hh
  ·exfalso
   have hat1':(thd s i).at_.toNat<(p.bods.getD i []).length:=hat1
   have e:(p.bods.getD i []).length-1=(thd s i).at_.toNat:=by omega
   have hl:=hb2.2
   rw [e] at hl
   have:((p.bods.getD i []).getD (thd s i).at_.toNat default)=ins p s i:=rfl
   rw [this] at hl
   omega
 have hat0':0≤(thd s i).at_:=hat0
 have hnx :∃n:Nat,qT8 (ins p s i) (thd s i).regs (thd s i).at_=n∧n<(p.bods.getD i []).length∧(n:Int)∈yF (body p i) (thd s i).at_.toNat:=by
  have hx:(body p i).getD (thd s i).at_.toNat default=ins p s i:=rfl
  unfold yF qT8
  simp only [hx]
  rw [if_neg h13]
  by_cases h11:(ins p s i).op=11
  ·obtain ⟨j0,j1⟩:=hA.jm (.inl h11)
   rw [if_pos h11,if_pos h11]
   exact ⟨(ins p s i).n.toNat,by omega,j1,by rw [qXq]; omega⟩
  have hl:=hlast h11
  rw [if_neg h11,if_neg h11]
  by_cases h12:(ins p s i).op=12
  ·obtain ⟨j0,j1⟩:=hA.jm (.inr h12)
   rw [if_pos h12,if_pos h12]
   have hmem :∀n:Int,n=(ins p s i).n∨n=(thd s i).at_+1→n∈(if (ins p s i).n<((thd s i).at_.toNat:Int)+1 then [(ins p s i).n,((thd s i).at_.toNat:Int)+1] else if ((thd s i).at_.toNat:Int)+1<(ins p s i).n then [((thd s i).at_.toNat:Int)+1,(ins p s i).n] else [((thd s i).at_.toNat:Int)+1]):=by
    intro n hn
    split
    ·simp only [List.mem_cons,List.not_mem_nil,or_false]; omega
    split
    ·simp only [List.mem_cons,List.not_mem_nil,or_false]; omega
    ·rw [qXq]; omega
   split
   ·exact ⟨(ins p s i).n.toNat,by omega,j1,hmem _ (.inl (by omega))⟩
   ·exact ⟨(thd s i).at_.toNat+1,by push_cast; omega,hl,hmem _ (.inr (by push_cast; omega))⟩
  ·rw [if_neg h12,if_neg h12]
   exact ⟨(thd s i).at_.toNat+1,by push_cast; omega,hl,by rw [qXq]; push_cast; omega⟩
 obtain ⟨n,h1,h2,h3⟩:=hnx
 rw [if_neg (by rintro (e | e); exact absurd e (by decide); rw [h1] at e; omega),h1]
 exact .next n hok h13 h1 h2 h3
def kC (k:KV) (regs:List Int):Prop :=∀r:Nat,r<4→(k.getD r default).is_=true→(k.getD r default).v=regs.getD r 0
theorem qH3 {k:KV} {regs:List Int} (h:kC k regs) {i:Nat} (hi:i<k.length) (hr:i<regs.length) {a:uQ} {v:Int} (ha:a.is_=true→a.v=v):kC (k.set i a) (regs.set i v):=by
 intro r hr4 e
 rw [bC _ _ _ _ _ hi] at e⊢
 rw [bC _ _ _ _ _ hr]
 split
 ·rename_i hri
  rw [if_pos hri] at e
  exact ha e
 ·rename_i hri
  rw [if_neg hri] at e
  exact h r hr4 e
theorem qH2 {a b:KV} {regs:List Int} (h:kC a regs) (hl:a.length=4) (hv:vle a b):kC b regs:=by
 intro r hr e
 rcases hv.2 r (by omega) with h1 | h1
 ·rw [h1] at e
  exact absurd e (by decide)
 ·rw [←h1] at e⊢
  exact h r hr e
theorem dB {k:KV} {regs:List Int} (h:kC k regs) (i:Nat) (hi:i<k.length) (v:Int):kC (k.set i kno) (regs.set i v):=by
 intro r hr4 e
 rw [bC _ _ _ _ _ hi] at e⊢
 by_cases hri:r=i
 ·rw [if_pos hri] at e
  exact absurd e (by decide)
 ·rw [if_neg hri] at e⊢
  rw [h r hr4 e]
  simp [qXb,List.getElem?_set,show¬i=r from fun e=>hri e.symm]
theorem qFw {k:KV} {regs:List Int} (h:kC k regs) (i:Nat) (hi:i<k.length):kC (k.set i kno) regs:=by
 intro r hr4 e
 rw [bC _ _ _ _ _ hi] at e⊢
 by_cases hri:r=i
 ·rw [if_pos hri] at e
  exact absurd e (by decide)
 ·rw [if_neg hri] at e⊢
  exact h r hr4 e
theorem qJf {x:Ins} {k:KV} {regs:List Int} {c:vA} (hop:1≤x.op∧x.op≤13) (ho:Op4 x) (hk:k.length=4) (hr:regs.length=4) (h:kC k regs):kC (bM x k) (qFy x regs c):=by
 obtain ⟨r0,r1,a0,a1,b0,b1⟩:=ho
 have hrr:x.r.toNat<k.length:=by omega
 have hrb:x.b.toNat<k.length:=by omega
 have hra:x.a.toNat<4:=by omega
 have hrb4:x.b.toNat<4:=by omega
 have hcase:x.op=1∨(x.op=2∨x.op=3∨x.op=4)∨x.op=5∨x.op=6∨x.op=7∨x.op=8∨9≤x.op:=by omega
 unfold bM qFy qFt vL fK
 rcases hcase with e | e | e | e | e | e | e
 ·simp only [e]
  simp only [if_pos,true_or,qZ4,qZi]
  rw [List.set_set]
  exact qH3 h hrr (by omega) fun _=>rfl
 ·have h1 :¬x.op=1:=by omega
  have hth:(decide (x.op=2)||decide (x.op=3)||decide (x.op=4))=true:=by simp [e,or_assoc]
  have hs:x.op=1∨x.op=2∨x.op=3∨x.op=4∨x.op=7:=by omega
  rw [if_neg h1,if_neg h1,if_pos e,if_pos hs,hth]
  simp only [qZ4,qZi,Bool.true_and]
  split
  ·rename_i hc
   simp only [qX9] at hc
   rw [List.set_set,h _ hra hc.1,h _ hrb4 hc.2]
   exact qH3 h hrr (by omega) fun _=>rfl
  ·exact dB h _ hrr _
 ·have e1 :¬(x.op=1∨x.op=2∨x.op=3∨x.op=4∨x.op=7):=by omega
  have e2 :¬(x.op=6∨x.op=8):=by omega
  rw [if_neg e1,if_neg e2]
  simp [e,qV,h]
 ·have e1 :¬(x.op=1∨x.op=2∨x.op=3∨x.op=4∨x.op=7):=by omega
  have e2:(x.op=6∨x.op=8):=by omega
  rw [if_neg e1,if_pos e2]
  simp only [e,qV,wU,qZ4,qZi]
  simp only [show¬((6:Int)=1) by decide,show¬((6:Int)=5∨(6:Int)=7) by decide,if_neg,if_false,not_false_iff]
  simp
  exact dB (dB h _ hrr _) _ (by rw [qYq]; exact hrb) _
 ·have e1:(x.op=1∨x.op=2∨x.op=3∨x.op=4∨x.op=7):=by omega
  rw [if_pos e1]
  simp only [e,qV,wU,qZ4,qZi]
  simp
  split
  ·exact qFw h _ hrr
  ·exact dB h _ hrr _
 ·have e1 :¬(x.op=1∨x.op=2∨x.op=3∨x.op=4∨x.op=7):=by omega
  have e2:(x.op=6∨x.op=8):=by omega
  rw [if_neg e1,if_pos e2]
  simp only [e,qV,wU,qZ4,qZi]
  simp
  split
  ·exact dB (dB h _ hrr _) _ (by rw [qYq]; exact hrb) _
  ·exact dB (dB h _ hrr _) _ (by rw [qYq]; exact hrb) _
 ·have e1 :¬(x.op=1∨x.op=2∨x.op=3∨x.op=4∨x.op=7):=by omega
  have e2 :¬(x.op=6∨x.op=8):=by omega
  have e3 :¬(x.op=5∨x.op=7):=by omega
  have e4 :¬x.op=1:=by omega
  have e5 :¬(x.op=2∨x.op=3∨x.op=4):=by omega
  have hth:(decide (x.op=2)||decide (x.op=3)||decide (x.op=4))=false:=by simp; omega
  rw [if_neg e1,if_neg e2,if_neg e4,if_neg e4,if_neg e5,hth]
  simp only [Bool.false_and,Bool.false_eq_true,if_false,qZi]
  split
  ·unfold qV
   rw [if_neg e3,if_neg e2]
   exact h
  ·exact h
theorem qN1 {x:Ins} {pl c:Int} (h:jL x pl c=true) (h0:0≤c) (h3:c≤3):jL x pl 3=true:=by
 obtain ⟨o1,o2,o3,o4⟩:=nK h
 unfold jL at h⊢
 repeat' split at h
 all_goals (simp_all [qK])
 all_goals omega
theorem qLo {l:List Ins} {c:Int} (h:wV l c=true):wV l 3=true:=by
 unfold wV at h⊢
 simp only [qX9,List.all_eq_true,qK,Bool.or_eq_true,decide_eq_true_eq] at h⊢
 obtain ⟨⟨⟨h1,h2⟩,h3⟩,h4⟩:=h
 exact ⟨⟨⟨by omega,h2⟩,fun x hx=>qN1 (h3 x hx) h1.1 h1.2⟩,h4⟩
structure KnI (p:yM) (s:qW):Prop where
 ok:wG p s=true
 kn :∀i,i<s.ths.length→kat (cE (body p i)) (thd s i).at_.toNat≠[]∧kC (kat (cE (body p i)) (thd s i).at_.toNat) (thd s i).regs
theorem qEv {p:yM} {s:qW} (h:wG p s=true) {i:Nat} (hi:i<s.ths.length):wV (body p i) 3=true:=by
 have hs:=(yU p s).1 h
 exact qLo ((mQ hs.1).2.2.2.2 _ (yR p.bods i [] (by omega)))
theorem qFl {p:yM} {s:qW} (h:wG p s=true) {i:Nat} (hi:i<s.ths.length):qFt (ins p s i)=true→jQ (chn s (ins p s i).n.toNat)=true:=by
 intro hc
 unfold qFt at hc
 simp only [qX9,decide_eq_true_eq] at hc
 have hA:=qF0 h hi
 exact (((yU p s).1 h).2.2.2.2.2 _ (hA.ch hc.1 hc.2).2).1
theorem qN9 {x:Ins} {regs:List Int} {c:vA} (hc:qFt x=true→jQ c=true) (h:qEc x regs c=false):qFy x regs c=regs:=by
 unfold qEc at h
 cases hi:qFt x
 ·rw [hi,if_neg (by decide)] at h
  exact absurd h (by decide)
 rw [hi,if_pos rfl] at h
 have hc:=hc hi
 have hi2:=hi
 unfold qFt at hi2
 simp only [qX9,decide_eq_true_eq] at hi2
 unfold qFy
 rw [if_neg (by omega),if_neg (by omega),hi,if_pos rfl]
 unfold qV at h⊢
 split
 ·rename_i h57
  rw [if_pos h57] at h
  simp only [Bool.not_eq_false',decide_eq_true_eq] at h
  rw [if_neg (fun e=>e.2 h)]
 ·rename_i h57
  rw [if_neg h57] at h
  split
  ·rename_i h68
   rw [if_pos h68] at h
   simp only [Bool.not_eq_false',decide_eq_true_eq] at h
   exfalso
   unfold wI at h
   rw [hc] at h
   simp only [Bool.not_true,Bool.false_eq_true,if_false] at h
   repeat' split at h
   all_goals (simp at h)
  ·rfl
theorem KnI.step {p:yM} {s:qW} (h:KnI p s) (who:Int):KnI p (wB p s who).1:=by
 refine ⟨tZ who h.ok,?_⟩
 unfold wB
 split
 case isFalse=>exact h.kn
 rename_i hcode
 obtain ⟨w0,w1⟩:=qCj hcode
 obtain ⟨i,rfl⟩:=Int.eq_ofNat_of_zero_le w0
 simp only [Int.toNat_natCast] at w1⊢
 have hA:=qF0 h.ok w1
 have hb3:=qEv h.ok w1
 have hlf:=dW _ hb3
 obtain ⟨k1,k2⟩:=h.kn i w1
 have hat:(thd s i).at_.toNat<(body p i).length:=hA.at1
 have hwf:=(hlf.inv.wf (thd s i).at_.toNat).resolve_left k1
 have ho4:Op4 (ins p s i):=⟨hA.r0,by have:=hA.r1; omega,hA.a0,by have:=hA.a1; omega,hA.b0,by have:=hA.b1; omega⟩
 have hbh:=qJf (c:=chn s (ins p s i).n.toNat) hA.op ho4 hwf.1 hA.regs k2
 have go :∀(t:yT) (chs:List vA) (tr:List gM),(kat (cE (body p i)) t.at_.toNat≠[]∧kC (kat (cE (body p i)) t.at_.toNat) t.regs)→∀j,j<s.ths.length→kat (cE (body p j)) (thd ⟨s.ths.set i t,chs,tr⟩ j).at_.toNat≠[]∧kC (kat (cE (body p j)) (thd ⟨s.ths.set i t,chs,tr⟩ j).at_.toNat) (thd ⟨s.ths.set i t,chs,tr⟩ j).regs:=by
  intro t chs tr ht j hj
  rw [qCa t w1]
  split
  ·rename_i e
   rw [e]
   exact ht
  ·exact h.kn j hj
 have hw:=qL8 h.ok w1
 generalize wQ p s i=S at hw
 cases hw with
 | ended h13 =>
  intro j hj
  exact go ⟨(thd s i).at_,(thd s i).regs,1⟩ _ _ ⟨k1,k2⟩ j (by simpa using hj)
 | fault hf =>
  intro j hj
  refine go ⟨(thd s i).at_,qFy (ins p s i) (thd s i).regs (chn s (ins p s i).n.toNat),2⟩ _ _ ⟨k1,?_⟩ j (by simpa using hj)
  simp only
  rw [qN9 (qFl h.ok w1) hf]
  exact k2
 | next n hok h13 hn hl hm =>
  intro j hj
  have he:=hlf.edge _ hat k1 n hm
  rw [Int.toNat_natCast] at he
  refine go ⟨n,qFy (ins p s i) (thd s i).regs (chn s (ins p s i).n.toNat),(thd s i).st⟩ _ _ ⟨by simpa using he.1,?_⟩ j (by simpa using hj)
  simp only [Int.toNat_natCast]
  have hx:(body p i).getD (thd s i).at_.toNat default=ins p s i:=rfl
  rw [hx] at he
  exact qH2 hbh (by rw [he.2.1]; exact ((hlf.inv.wf n).resolve_left he.1).1) he.2
theorem KnI.new {p:yM} (h:uZ p=true):KnI p (uR p).1:=by
 refine ⟨rY h,?_⟩
 have hs:(uR p).1=⟨qX3 p.bods.length zQ,p.caps.map fun c=>⟨c,[],false⟩,[]⟩:=by
  unfold uR
  rw [if_pos h]
 intro i hi
 have hlf:=dW _ (qEv (rY h) hi)
 rw [hs] at hi⊢
 have hi':i<p.bods.length:=by simpa using hi
 have ht:thd ⟨qX3 p.bods.length zQ,p.caps.map fun c=>⟨c,[],false⟩,[]⟩ i=zQ:=by
  unfold thd
  simp [qXb,hi']
 rw [ht]
 refine ⟨hlf.inv.init.1,qH2 (a:=qBh) ?_ rfl hlf.inv.init.2⟩
 intro r hr _
 have:r=0∨r=1∨r=2∨r=3:=by omega
 rcases this with rfl | rfl | rfl | rfl<;>rfl
theorem qT4 {l:List Ins} (h:wV l 3=true) {i:Nat} (hi:i<l.length) (hk:kat (cE l) i≠[]):(bJ (cE l)).getD i []=kat (cE l) i:=by
 rw [aY _ _ (by rw [(dW l h).inv.len]; exact hi)]
 exact if_neg hk
def qUp (p:yM) (n:Nat):qW:=qWc p (uR p).1 (qX3 n 0)
def Beh (p q:yM):Prop :=∀n,∃m,m≤n∧(qUp q m).tr=(qUp p n).tr∧(thd (qUp q m) 0).st=(thd (qUp p n) 0).st
theorem Beh.refl (p:yM):Beh p p:=fun n=>⟨n,Nat.le_refl _,rfl,rfl⟩
theorem Beh.trans {p q r:yM} (h:Beh p q) (k:Beh q r):Beh p r:=by
 intro n
 obtain ⟨m,h1,h2,h3⟩:=h n
 obtain ⟨m',k1,k2,k3⟩:=k m
 exact ⟨m',by omega,by rw [k2,h2],by rw [k3,h3]⟩
end Go.Sep
