/- Contracts of functions. -/
import Derived.Test.YtfecojefbnnknaaLxx13
import Derived.Test.YtfecojefbnnknaaLxx16
import Derived.Test.YtfecojefbnnknaaLxx17
open Bool renaming and_eq_true → qZu
open List renaming foldl_cons → wBq, foldl_nil → wBz, getD_eq_getElem?_getD → qZw, length_set → wBb, mem_singleton → wAb, replicate → qZo
namespace Go.Sep
set_option maxHeartbeats 16000000
open Go.Proofs
set_option linter.unusedSimpArgs false
set_option linter.unusedVariables false
set_option maxRecDepth 100000
open Classical in
noncomputable def qM3 (l:List Ins):KS:=if h:wJ l 3=true then Classical.choose (qEl h) else []
theorem qM2 (l:List Ins) (h:wJ l 3=true):qW1 l (qM3 l):=by
 unfold qM3
 rw [dif_pos h]
 exact Classical.choose_spec (qEl h)
def lB (x:Ins):Bool:=decide (5≤x.op)&&decide (x.op≤9)
def cC (x:Ins) (regs:List Int) (c:jS):List Int :=
 if x.op=1 then regs.set x.r.toNat x.n
 else if x.op=2∨x.op=3∨x.op=4 then regs.set x.r.toNat (xJ x.op (regs.getD x.a.toNat 0) (regs.getD x.b.toNat 0))
 else if lB x then (qX ⟨0,regs,0⟩ c x).1.regs
 else regs
def qCr (x:Ins) (regs:List Int) (at_:Int):Int:=if x.op=11 then x.n else if x.op=12 then (if regs.getD x.a.toNat 0=0 then x.n else at_+1) else at_+1
def qCs (x:Ins) (regs:List Int) (chs:List jS):List jS:=if lB x then chs.set x.n.toNat (qX ⟨0,regs,0⟩ (chs.getD x.n.toNat default) x).2.1 else chs
def eL (x:Ins) (regs:List Int) (c:jS):Bool:=if lB x then (qX ⟨0,regs,0⟩ c x).2.2 else true
def qCq (i:Nat) (x:Ins) (regs:List Int) (tr:List bK):List bK:=if x.op=10 then tr++[⟨i,regs.getD x.a.toNat 0⟩] else tr
theorem qGo (t:yJ) (c:jS) (x:Ins):(qX t c x).1=⟨t.at_,(qX ⟨0,t.regs,0⟩ c x).1.regs,t.st⟩∧(qX t c x).2=(qX ⟨0,t.regs,0⟩ c x).2:=by
 unfold qX reg wV
 repeat' split
 all_goals exact ⟨rfl,rfl⟩
theorem rE {p:wU} {s:qS} {i:Nat} (hop:1≤(ins p s i).op∧(ins p s i).op≤13):wN p s i =
  if (ins p s i).op=13 then ⟨s.ths.set i ⟨(thd s i).at_,(thd s i).regs,1⟩,s.chs,s.tr⟩
  else vM p ⟨s.ths,qCs (ins p s i) (thd s i).regs s.chs,qCq i (ins p s i) (thd s i).regs s.tr⟩ i ⟨(thd s i).at_,cC (ins p s i) (thd s i).regs (chn s (ins p s i).n.toNat),(thd s i).st⟩ (eL (ins p s i) (thd s i).regs (chn s (ins p s i).n.toNat)) (qCr (ins p s i) (thd s i).regs (thd s i).at_):=by
 have hth:s.ths.getD i default=thd s i:=rfl
 have hcs:s.chs.getD (ins p s i).n.toNat default=chn s (ins p s i).n.toNat:=rfl
 unfold wN
 rw [hth,hcs]
 generalize ins p s i=x at *
 generalize hT:thd s i=t at *
 unfold qCs qCq cC eL qCr lB wV reg
 rw [hcs]
 have hcase:x.op=1∨x.op=2∨x.op=3∨x.op=4∨x.op=10∨x.op=11∨x.op=12∨x.op=13∨(5≤x.op∧x.op≤9):=by omega
 rcases hcase with h | h | h | h | h | h | h | h | h
 all_goals (first
  | (simp [h,-qZw]; done)
  | (
   rw [if_neg (by omega),if_neg (by omega),if_neg (by omega),if_neg (by omega),if_neg (by omega),if_neg (by omega),if_neg (by omega)]
   obtain ⟨e1,e2⟩:=qGo t (chn s x.n.toNat) x
   rw [e1,e2]
   have hb:(decide (5≤x.op)&&decide (x.op≤9))=true:=by simp [h]
   simp only [hb,if_true]
   rw [if_neg (by omega),if_neg (by omega),if_neg (by omega),if_neg (by omega),if_neg (by omega)]))
inductive qQk (p:wU) (s:qS) (i:Nat):qS→Prop where
 | ended (h:(ins p s i).op=13):qQk p s i ⟨s.ths.set i ⟨(thd s i).at_,(thd s i).regs,1⟩,s.chs,s.tr⟩
 | fault (h:eL (ins p s i) (thd s i).regs (chn s (ins p s i).n.toNat)=false):qQk p s i ⟨s.ths.set i ⟨(thd s i).at_,cC (ins p s i) (thd s i).regs (chn s (ins p s i).n.toNat),2⟩,qCs (ins p s i) (thd s i).regs s.chs,qCq i (ins p s i) (thd s i).regs s.tr⟩
 | next (n:Nat) (h:eL (ins p s i) (thd s i).regs (chn s (ins p s i).n.toNat)=true) (h13:(ins p s i).op≠13) (hn:qCr (ins p s i) (thd s i).regs (thd s i).at_=n) (hl:n<(body p i).length) (hm:(n:Int)∈jA (body p i) (thd s i).at_.toNat) :
   qQk p s i ⟨s.ths.set i ⟨n,cC (ins p s i) (thd s i).regs (chn s (ins p s i).n.toNat),(thd s i).st⟩,qCs (ins p s i) (thd s i).regs s.chs,qCq i (ins p s i) (thd s i).regs s.tr⟩
theorem qC2 {p:wU} {s:qS} {i:Nat} (h:qY p s=true) (hi:i<s.ths.length):qQk p s i (wN p s i):=by
 have hs:=(yS p s).1 h
 have hA:=tW h hi
 have hb:=(mM hs.1).2.2.2.2 _ (yO p.bods i [] hA.hb)
 have hop:=hA.op
 have hat0:=hA.at0
 have hat1:=hA.at1
 rw [rE hop]
 split
 ·rename_i h13
  exact .ended h13
 rename_i h13
 unfold vM
 cases hok:eL (ins p s i) (thd s i).regs (chn s (ins p s i).n.toNat)
 ·rw [if_pos (.inl rfl)]
  exact .fault hok
 have hlast:(ins p s i).op≠11→(thd s i).at_.toNat+1<(p.bods.getD i []).length:=by
  intro h11
  have hb2:=hb
  unfold wJ zW at hb2
  simp only [qZu,Bool.or_eq_true,decide_eq_true_eq] at hb2
  rcases Nat.lt_or_ge ((thd s i).at_.toNat+1) (p.bods.getD i []).length with hh | hh
  ·exact hh
  ·exfalso
   have hat1':(thd s i).at_.toNat<(p.bods.getD i []).length:=hat1
   have e:(p.bods.getD i []).length-1=(thd s i).at_.toNat:=by omega
   have hl:=hb2.2
   rw [e] at hl
   have:((p.bods.getD i []).getD (thd s i).at_.toNat default)=ins p s i:=rfl
   rw [this] at hl
   omega
 have hat0':0≤(thd s i).at_:=hat0
 have hnx :∃n:Nat,qCr (ins p s i) (thd s i).regs (thd s i).at_=n∧n<(p.bods.getD i []).length∧(n:Int)∈jA (body p i) (thd s i).at_.toNat:=by
  have hx:(body p i).getD (thd s i).at_.toNat default=ins p s i:=rfl
  unfold jA qCr
  simp only [hx]
  rw [if_neg h13]
  by_cases h11:(ins p s i).op=11
  ·obtain ⟨j0,j1⟩:=hA.jm (.inl h11)
   rw [if_pos h11,if_pos h11]
   exact ⟨(ins p s i).n.toNat,by omega,j1,by rw [wAb]; omega⟩
  have hl:=hlast h11
  rw [if_neg h11,if_neg h11]
  by_cases h12:(ins p s i).op=12
  ·obtain ⟨j0,j1⟩:=hA.jm (.inr h12)
   rw [if_pos h12,if_pos h12]
   have hmem :∀n:Int,n=(ins p s i).n∨n=(thd s i).at_+1→n∈(if (ins p s i).n<((thd s i).at_.toNat:Int)+1 then [(ins p s i).n,((thd s i).at_.toNat:Int)+1] else if ((thd s i).at_.toNat:Int)+1<(ins p s i).n then [((thd s i).at_.toNat:Int)+1,(ins p s i).n] else [((thd s i).at_.toNat:Int)+1]):=by
    intro n hn
    split
    ·simp only [List.mem_cons,List.not_mem_nil,or_false]; omega
    split
    ·simp only [List.mem_cons,List.not_mem_nil,or_false]; omega
    ·rw [wAb]; omega
   split
   ·exact ⟨(ins p s i).n.toNat,by omega,j1,hmem _ (.inl (by omega))⟩
   ·exact ⟨(thd s i).at_.toNat+1,by push_cast; omega,hl,hmem _ (.inr (by push_cast; omega))⟩
  ·rw [if_neg h12,if_neg h12]
   exact ⟨(thd s i).at_.toNat+1,by push_cast; omega,hl,by rw [wAb]; push_cast; omega⟩
 obtain ⟨n,h1,h2,h3⟩:=hnx
 rw [if_neg (by rintro (e | e); exact absurd e (by decide); rw [h1] at e; omega),h1]
 exact .next n hok h13 h1 h2 h3
def iX (k:KV) (regs:List Int):Prop :=∀r:Nat,r<4→(k.getD r default).is_=true→(k.getD r default).v=regs.getD r 0
theorem qHr {k:KV} {regs:List Int} (h:iX k regs) {i:Nat} (hi:i<k.length) (hr:i<regs.length) {a:bL} {v:Int} (ha:a.is_=true→a.v=v):iX (k.set i a) (regs.set i v):=by
 intro r hr4 e
 rw [vS _ _ _ _ _ hi] at e⊢
 rw [vS _ _ _ _ _ hr]
 split
 ·rename_i hri
  rw [if_pos hri] at e
  exact ha e
 ·rename_i hri
  rw [if_neg hri] at e
  exact h r hr4 e
theorem qHq {a b:KV} {regs:List Int} (h:iX a regs) (hl:a.length=4) (hv:vle a b):iX b regs:=by
 intro r hr e
 rcases hv.2 r (by omega) with h1 | h1
 ·rw [h1] at e
  exact absurd e (by decide)
 ·rw [←h1] at e⊢
  exact h r hr e
theorem dB {k:KV} {regs:List Int} (h:iX k regs) (i:Nat) (hi:i<k.length) (v:Int):iX (k.set i kno) (regs.set i v):=by
 intro r hr4 e
 rw [vS _ _ _ _ _ hi] at e⊢
 by_cases hri:r=i
 ·rw [if_pos hri] at e
  exact absurd e (by decide)
 ·rw [if_neg hri] at e⊢
  rw [h r hr4 e]
  simp [qZw,List.getElem?_set,show¬i=r from fun e=>hri e.symm]
theorem qGi {k:KV} {regs:List Int} (h:iX k regs) (i:Nat) (hi:i<k.length):iX (k.set i kno) regs:=by
 intro r hr4 e
 rw [vS _ _ _ _ _ hi] at e⊢
 by_cases hri:r=i
 ·rw [if_pos hri] at e
  exact absurd e (by decide)
 ·rw [if_neg hri] at e⊢
  exact h r hr4 e
theorem qKd {x:Ins} {k:KV} {regs:List Int} {c:jS} (hop:1≤x.op∧x.op≤13) (ho:Op4 x) (hk:k.length=4) (hr:regs.length=4) (h:iX k regs):iX (fE x k) (cC x regs c):=by
 obtain ⟨r0,r1,a0,a1,b0,b1⟩:=ho
 have hrr:x.r.toNat<k.length:=by omega
 have hrb:x.b.toNat<k.length:=by omega
 have hra:x.a.toNat<4:=by omega
 have hrb4:x.b.toNat<4:=by omega
 have hcase:x.op=1∨(x.op=2∨x.op=3∨x.op=4)∨x.op=5∨x.op=6∨x.op=7∨x.op=8∨9≤x.op:=by omega
 unfold fE cC lB uM qPj
 rcases hcase with e | e | e | e | e | e | e
 ·simp only [e]
  simp only [if_pos,true_or,wBq,wBz]
  rw [List.set_set]
  exact qHr h hrr (by omega) fun _=>rfl
 ·have h1 :¬x.op=1:=by omega
  have hth:(decide (x.op=2)||decide (x.op=3)||decide (x.op=4))=true:=by simp [e,or_assoc]
  have hs:x.op=1∨x.op=2∨x.op=3∨x.op=4∨x.op=7:=by omega
  rw [if_neg h1,if_neg h1,if_pos e,if_pos hs,hth]
  simp only [wBq,wBz,Bool.true_and]
  split
  ·rename_i hc
   simp only [qZu] at hc
   rw [List.set_set,h _ hra hc.1,h _ hrb4 hc.2]
   exact qHr h hrr (by omega) fun _=>rfl
  ·exact dB h _ hrr _
 ·have e1 :¬(x.op=1∨x.op=2∨x.op=3∨x.op=4∨x.op=7):=by omega
  have e2 :¬(x.op=6∨x.op=8):=by omega
  rw [if_neg e1,if_neg e2]
  simp [e,qX,h]
 ·have e1 :¬(x.op=1∨x.op=2∨x.op=3∨x.op=4∨x.op=7):=by omega
  have e2:(x.op=6∨x.op=8):=by omega
  rw [if_neg e1,if_pos e2]
  simp only [e,qX,wV,wBq,wBz]
  simp only [show¬((6:Int)=1) by decide,show¬((6:Int)=5∨(6:Int)=7) by decide,if_neg,if_false,not_false_iff]
  simp
  exact dB (dB h _ hrr _) _ (by rw [wBb]; exact hrb) _
 ·have e1:(x.op=1∨x.op=2∨x.op=3∨x.op=4∨x.op=7):=by omega
  rw [if_pos e1]
  simp only [e,qX,wV,wBq,wBz]
  simp
  split
  ·exact qGi h _ hrr
  ·exact dB h _ hrr _
 ·have e1 :¬(x.op=1∨x.op=2∨x.op=3∨x.op=4∨x.op=7):=by omega
  have e2:(x.op=6∨x.op=8):=by omega
  rw [if_neg e1,if_pos e2]
  simp only [e,qX,wV,wBq,wBz]
  simp
  split
  ·exact dB (dB h _ hrr _) _ (by rw [wBb]; exact hrb) _
  ·exact dB (dB h _ hrr _) _ (by rw [wBb]; exact hrb) _
 ·have e1 :¬(x.op=1∨x.op=2∨x.op=3∨x.op=4∨x.op=7):=by omega
  have e2 :¬(x.op=6∨x.op=8):=by omega
  have e3 :¬(x.op=5∨x.op=7):=by omega
  have e4 :¬x.op=1:=by omega
  have e5 :¬(x.op=2∨x.op=3∨x.op=4):=by omega
  have hth:(decide (x.op=2)||decide (x.op=3)||decide (x.op=4))=false:=by simp; omega
  rw [if_neg e1,if_neg e2,if_neg e4,if_neg e4,if_neg e5,hth]
  simp only [Bool.false_and,Bool.false_eq_true,if_false,wBz]
  split
  ·unfold qX
   rw [if_neg e3,if_neg e2]
   exact h
  ·exact h
theorem qO8 {x:Ins} {pl c:Int} (h:jE x pl c=true) (h0:0≤c) (h3:c≤3):jE x pl 3=true:=by
 obtain ⟨o1,o2,o3,o4⟩:=nI h
 unfold jE at h⊢
 repeat' split at h
 all_goals (simp_all [qK])
 all_goals omega
theorem qCj {l:List Ins} {c:Int} (h:wJ l c=true):wJ l 3=true:=by
 unfold wJ at h⊢
 simp only [qZu,List.all_eq_true,qK,Bool.or_eq_true,decide_eq_true_eq] at h⊢
 obtain ⟨⟨⟨h1,h2⟩,h3⟩,h4⟩:=h
 exact ⟨⟨⟨by omega,h2⟩,fun x hx=>qO8 (h3 x hx) h1.1 h1.2⟩,h4⟩
structure KnI (p:wU) (s:qS):Prop where
 ok:qY p s=true
 kn :∀i,i<s.ths.length→kat (qM3 (body p i)) (thd s i).at_.toNat≠[]∧iX (kat (qM3 (body p i)) (thd s i).at_.toNat) (thd s i).regs
theorem tU {p:wU} {s:qS} (h:qY p s=true) {i:Nat} (hi:i<s.ths.length):wJ (body p i) 3=true:=by
 have hs:=(yS p s).1 h
 exact qCj ((mM hs.1).2.2.2.2 _ (yO p.bods i [] (by omega)))
theorem hY {p:wU} {s:qS} (h:qY p s=true) {i:Nat} (hi:i<s.ths.length):lB (ins p s i)=true→jM (chn s (ins p s i).n.toNat)=true:=by
 intro hc
 unfold lB at hc
 simp only [qZu,decide_eq_true_eq] at hc
 have hA:=tW h hi
 exact (((yS p s).1 h).2.2.2.2.2 _ (hA.ch hc.1 hc.2).2).1
theorem rD {x:Ins} {regs:List Int} {c:jS} (hc:lB x=true→jM c=true) (h:eL x regs c=false):cC x regs c=regs:=by
 unfold eL at h
 cases hi:lB x
 ·rw [hi,if_neg (by decide)] at h
  exact absurd h (by decide)
 rw [hi,if_pos rfl] at h
 have hc:=hc hi
 have hi2:=hi
 unfold lB at hi2
 simp only [qZu,decide_eq_true_eq] at hi2
 unfold cC
 rw [if_neg (by omega),if_neg (by omega),hi,if_pos rfl]
 unfold qX at h⊢
 split
 ·rename_i h57
  rw [if_pos h57] at h
  simp only [Bool.not_eq_false',decide_eq_true_eq] at h
  rw [if_neg (fun e=>e.2 h)]
 ·rename_i h57
  rw [if_neg h57] at h
  split
  ·rename_i h68
   rw [if_pos h68] at h
   simp only [Bool.not_eq_false',decide_eq_true_eq] at h
   exfalso
   unfold wP at h
   rw [hc] at h
   simp only [Bool.not_true,Bool.false_eq_true,if_false] at h
   repeat' split at h
   all_goals (simp at h)
  ·rfl
theorem KnI.step {p:wU} {s:qS} (h:KnI p s) (who:Int):KnI p (qT p s who).1:=by
 refine ⟨dM who h.ok,?_⟩
 unfold qT
 split
 case isFalse=>exact h.kn
 rename_i hcode
 obtain ⟨w0,w1⟩:=qDa hcode
 obtain ⟨i,rfl⟩:=Int.eq_ofNat_of_zero_le w0
 simp only [Int.toNat_natCast] at w1⊢
 have hA:=tW h.ok w1
 have hb3:=tU h.ok w1
 have hlf:=qM2 _ hb3
 obtain ⟨k1,k2⟩:=h.kn i w1
 have hat:(thd s i).at_.toNat<(body p i).length:=hA.at1
 have hwf:=(hlf.inv.wf (thd s i).at_.toNat).resolve_left k1
 have ho4:Op4 (ins p s i):=⟨hA.r0,by have:=hA.r1; omega,hA.a0,by have:=hA.a1; omega,hA.b0,by have:=hA.b1; omega⟩
 have hbh:=qKd (c:=chn s (ins p s i).n.toNat) hA.op ho4 hwf.1 hA.regs k2
 have go :∀(t:yJ) (chs:List jS) (tr:List bK),(kat (qM3 (body p i)) t.at_.toNat≠[]∧iX (kat (qM3 (body p i)) t.at_.toNat) t.regs)→∀j,j<s.ths.length→kat (qM3 (body p j)) (thd ⟨s.ths.set i t,chs,tr⟩ j).at_.toNat≠[]∧iX (kat (qM3 (body p j)) (thd ⟨s.ths.set i t,chs,tr⟩ j).at_.toNat) (thd ⟨s.ths.set i t,chs,tr⟩ j).regs:=by
  intro t chs tr ht j hj
  rw [oB t w1]
  split
  ·rename_i e
   rw [e]
   exact ht
  ·exact h.kn j hj
 have hw:=qC2 h.ok w1
 generalize wN p s i=S at hw
 cases hw with
 | ended h13 =>
  intro j hj
  exact go ⟨(thd s i).at_,(thd s i).regs,1⟩ _ _ ⟨k1,k2⟩ j (by simpa using hj)
 | fault hf =>
  intro j hj
  refine go ⟨(thd s i).at_,cC (ins p s i) (thd s i).regs (chn s (ins p s i).n.toNat),2⟩ _ _ ⟨k1,?_⟩ j (by simpa using hj)
  simp only
  rw [rD (hY h.ok w1) hf]
  exact k2
 | next n hok h13 hn hl hm =>
  intro j hj
  have he:=hlf.edge _ hat k1 n hm
  rw [Int.toNat_natCast] at he
  refine go ⟨n,cC (ins p s i) (thd s i).regs (chn s (ins p s i).n.toNat),(thd s i).st⟩ _ _ ⟨by simpa using he.1,?_⟩ j (by simpa using hj)
  simp only [Int.toNat_natCast]
  have hx:(body p i).getD (thd s i).at_.toNat default=ins p s i:=rfl
  rw [hx] at he
  exact qHq hbh (by rw [he.2.1]; exact ((hlf.inv.wf n).resolve_left he.1).1) he.2
theorem KnI.new {p:wU} (h:vC p=true):KnI p (jR p).1:=by
 refine ⟨aC h,?_⟩
 have hs:(jR p).1=⟨qZo p.bods.length zL,p.caps.map fun c=>⟨c,[],false⟩,[]⟩:=by
  unfold jR
  rw [if_pos h]
 intro i hi
 have hlf:=qM2 _ (tU (aC h) hi)
 rw [hs] at hi⊢
 have hi':i<p.bods.length:=by simpa using hi
 have ht:thd ⟨qZo p.bods.length zL,p.caps.map fun c=>⟨c,[],false⟩,[]⟩ i=zL:=by
  unfold thd
  simp [qZw,hi']
 rw [ht]
 refine ⟨hlf.inv.init.1,qHq (a:=qM1) ?_ rfl hlf.inv.init.2⟩
 intro r hr _
 have:r=0∨r=1∨r=2∨r=3:=by omega
 rcases this with rfl | rfl | rfl | rfl<;>rfl
def qYv (l:List Ins):List Bool×List Int→List Bool×List Int
 | (R,[])=>(R,[])
 | (R,a::td)=>if R.getD a.toNat false then (R,td) else (R.set a.toNat true,td++jA l a.toNat)
def rN (l:List Ins) (s:List Bool×List Int):Nat→List Bool×List Int
 | 0=>s
 | k+1=>qYv l (rN l s k)
def qY5 (l:List Ins):List Bool×List Int:=(qZo l.length false,[0])
def qWl (l:List Ins):List Bool:=(rN l (qY5 l) (3*l.length+1)).1
theorem qEh (l:List Ins) (a:Nat):(jA l a).length≤2:=by
 unfold jA
 simp only
 repeat' split
 all_goals simp
end Go.Sep
