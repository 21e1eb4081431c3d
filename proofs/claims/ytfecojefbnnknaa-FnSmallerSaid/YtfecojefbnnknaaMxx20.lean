/- Contracts of functions. -/
import Derived.Test.YtfecojefbnnknaaMxx13
import Derived.Test.YtfecojefbnnknaaMxx19
open Bool renaming and_eq_true → wCs
open List renaming foldl_cons → wEn, foldl_nil → wEx, getD_eq_getElem?_getD → wCu, length_set → wE9, mem_singleton → wD9
namespace Go.Sep
set_option maxHeartbeats 16000000
open Go.Proofs
set_option linter.unusedSimpArgs false
set_option linter.unusedVariables false
set_option maxRecDepth 100000
def eV (x:Ins):Bool:=decide (5≤x.op)&&decide (x.op≤9)
def aF (x:Ins) (regs:List Int) (c:jU):List Int :=
 if x.op=1 then regs.set x.r.toNat x.n
 else if x.op=2∨x.op=3∨x.op=4 then regs.set x.r.toNat (uX x.op (regs.getD x.a.toNat 0) (regs.getD x.b.toNat 0))
 else if eV x then (qY ⟨0,regs,0⟩ c x).1.regs
 else regs
def aW (x:Ins) (regs:List Int) (at_:Int):Int:=if x.op=11 then x.n else if x.op=12 then (if regs.getD x.a.toNat 0=0 then x.n else at_+1) else at_+1
def sG (x:Ins) (regs:List Int) (chs:List jU):List jU:=if eV x then chs.set x.n.toNat (qY ⟨0,regs,0⟩ (chs.getD x.n.toNat default) x).2.1 else chs
def xU (x:Ins) (regs:List Int) (c:jU):Bool:=if eV x then (qY ⟨0,regs,0⟩ c x).2.2 else true
def oC (i:Nat) (x:Ins) (regs:List Int) (tr:List bM):List bM:=if x.op=10 then tr++[⟨i,regs.getD x.a.toNat 0⟩] else tr
theorem qIk (t:yO) (c:jU) (x:Ins):(qY t c x).1=⟨t.at_,(qY ⟨0,t.regs,0⟩ c x).1.regs,t.st⟩∧(qY t c x).2=(qY ⟨0,t.regs,0⟩ c x).2:=by
 unfold qY reg wW
 repeat' split
 all_goals exact ⟨rfl,rfl⟩
theorem dM {p:wK} {s:qU} {i:Nat} (hop:1≤(ins p s i).op∧(ins p s i).op≤13):wH p s i =
  if (ins p s i).op=13 then ⟨s.ths.set i ⟨(thd s i).at_,(thd s i).regs,1⟩,s.chs,s.tr⟩
  else vG p ⟨s.ths,sG (ins p s i) (thd s i).regs s.chs,oC i (ins p s i) (thd s i).regs s.tr⟩ i ⟨(thd s i).at_,aF (ins p s i) (thd s i).regs (chn s (ins p s i).n.toNat),(thd s i).st⟩ (xU (ins p s i) (thd s i).regs (chn s (ins p s i).n.toNat)) (aW (ins p s i) (thd s i).regs (thd s i).at_):=by
 have hth:s.ths.getD i default=thd s i:=rfl
 have hcs:s.chs.getD (ins p s i).n.toNat default=chn s (ins p s i).n.toNat:=rfl
 unfold wH
 rw [hth,hcs]
 generalize ins p s i=x at *
 generalize hT:thd s i=t at *
 unfold sG oC aF xU aW eV wW reg
 rw [hcs]
 have hcase:x.op=1∨x.op=2∨x.op=3∨x.op=4∨x.op=10∨x.op=11∨x.op=12∨x.op=13∨(5≤x.op∧x.op≤9):=by omega
 rcases hcase with h | h | h | h | h | h | h | h | h
 all_goals (first
  | (simp [h,-wCu]; done)
  | (
   rw [if_neg (by omega),if_neg (by omega),if_neg (by omega),if_neg (by omega),if_neg (by omega),if_neg (by omega),if_neg (by omega)]
   obtain ⟨e1,e2⟩:=qIk t (chn s x.n.toNat) x
   rw [e1,e2]
   have hb:(decide (5≤x.op)&&decide (x.op≤9))=true:=by simp [h]
   simp only [hb,if_true]
   rw [if_neg (by omega),if_neg (by omega),if_neg (by omega),if_neg (by omega),if_neg (by omega)]))
inductive qSz (p:wK) (s:qU) (i:Nat):qU→Prop where
 | ended (h:(ins p s i).op=13):qSz p s i ⟨s.ths.set i ⟨(thd s i).at_,(thd s i).regs,1⟩,s.chs,s.tr⟩
 | fault (h:xU (ins p s i) (thd s i).regs (chn s (ins p s i).n.toNat)=false):qSz p s i ⟨s.ths.set i ⟨(thd s i).at_,aF (ins p s i) (thd s i).regs (chn s (ins p s i).n.toNat),2⟩,sG (ins p s i) (thd s i).regs s.chs,oC i (ins p s i) (thd s i).regs s.tr⟩
 | next (n:Nat) (h:xU (ins p s i) (thd s i).regs (chn s (ins p s i).n.toNat)=true) (h13:(ins p s i).op≠13) (hn:aW (ins p s i) (thd s i).regs (thd s i).at_=n) (hl:n<(body p i).length) (hm:(n:Int)∈yD (body p i) (thd s i).at_.toNat) :
   qSz p s i ⟨s.ths.set i ⟨n,aF (ins p s i) (thd s i).regs (chn s (ins p s i).n.toNat),(thd s i).st⟩,sG (ins p s i) (thd s i).regs s.chs,oC i (ins p s i) (thd s i).regs s.tr⟩
theorem kL {p:wK} {s:qU} {i:Nat} (h:qZ p s=true) (hi:i<s.ths.length):qSz p s i (wH p s i):=by
 have hs:=(jF p s).1 h
 have hA:=nY h hi
 have hb:=(oU hs.1).2.2.2.2 _ (yL p.bods i [] hA.hb)
 have hop:=hA.op
 have hat0:=hA.at0
 have hat1:=hA.at1
 rw [dM hop]
 split
 ·rename_i h13
  exact .ended h13
 rename_i h13
 unfold vG
 cases hok:xU (ins p s i) (thd s i).regs (chn s (ins p s i).n.toNat)
 ·rw [if_pos (.inl rfl)]
  exact .fault hok
 have hlast:(ins p s i).op≠11→(thd s i).at_.toNat+1<(p.bods.getD i []).length:=by
  intro h11
  have hb2:=hb
  unfold wB dZ at hb2
  simp only [wCs,Bool.or_eq_true,decide_eq_true_eq] at hb2
  rcases Nat.lt_or_ge ((thd s i).at_.toNat+1) (p.bods.getD i []).length with hh | hh
  ·exact hh
  ·exfalso
   have hat1':(thd s i).at_.toNat<(p.bods.getD i []).length:=hat1
   have e:(p.bods.getD i []).length-1=(thd s i).at_.toNat:=by omega
   have hl:=hb2.2
   rw [e] at hl
   have:((p.bods.getD i []).getD (thd s i).at_.toNat default)=ins p s i:=rfl
   rw [this] at hl
   omega
 have hat0':0≤(thd s i).at_:=hat0
 have hnx :∃n:Nat,aW (ins p s i) (thd s i).regs (thd s i).at_=n∧n<(p.bods.getD i []).length∧(n:Int)∈yD (body p i) (thd s i).at_.toNat:=by
  have hx:(body p i).getD (thd s i).at_.toNat default=ins p s i:=rfl
  unfold yD aW
  simp only [hx]
  rw [if_neg h13]
  by_cases h11:(ins p s i).op=11
  ·obtain ⟨j0,j1⟩:=hA.jm (.inl h11)
   rw [if_pos h11,if_pos h11]
   exact ⟨(ins p s i).n.toNat,by omega,j1,by rw [wD9]; omega⟩
  have hl:=hlast h11
  rw [if_neg h11,if_neg h11]
  by_cases h12:(ins p s i).op=12
  ·obtain ⟨j0,j1⟩:=hA.jm (.inr h12)
   rw [if_pos h12,if_pos h12]
   have hmem :∀n:Int,n=(ins p s i).n∨n=(thd s i).at_+1→n∈(if (ins p s i).n<((thd s i).at_.toNat:Int)+1 then [(ins p s i).n,((thd s i).at_.toNat:Int)+1] else if ((thd s i).at_.toNat:Int)+1<(ins p s i).n then [((thd s i).at_.toNat:Int)+1,(ins p s i).n] else [((thd s i).at_.toNat:Int)+1]):=by
    intro n hn
    split
    ·simp only [List.mem_cons,List.not_mem_nil,or_false]; omega
    split
    ·simp only [List.mem_cons,List.not_mem_nil,or_false]; omega
    ·rw [wD9]; omega
   split
   ·exact ⟨(ins p s i).n.toNat,by omega,j1,hmem _ (.inl (by omega))⟩
   ·exact ⟨(thd s i).at_.toNat+1,by push_cast; omega,hl,hmem _ (.inr (by push_cast; omega))⟩
  ·rw [if_neg h12,if_neg h12]
   exact ⟨(thd s i).at_.toNat+1,by push_cast; omega,hl,by rw [wD9]; push_cast; omega⟩
 obtain ⟨n,h1,h2,h3⟩:=hnx
 rw [if_neg (by rintro (e | e); exact absurd e (by decide); rw [h1] at e; omega),h1]
 exact .next n hok h13 h1 h2 h3
def kH (k:KV) (regs:List Int):Prop :=∀r:Nat,r<4→(k.getD r default).is_=true→(k.getD r default).v=regs.getD r 0
theorem qJt {k:KV} {regs:List Int} (h:kH k regs) {i:Nat} (hi:i<k.length) (hr:i<regs.length) {a:uW} {v:Int} (ha:a.is_=true→a.v=v):kH (k.set i a) (regs.set i v):=by
 intro r hr4 e
 rw [yU _ _ _ _ _ hi] at e⊢
 rw [yU _ _ _ _ _ hr]
 split
 ·rename_i hri
  rw [if_pos hri] at e
  exact ha e
 ·rename_i hri
  rw [if_neg hri] at e
  exact h r hr4 e
theorem qJs {a b:KV} {regs:List Int} (h:kH a regs) (hl:a.length=4) (hv:vle a b):kH b regs:=by
 intro r hr e
 rcases hv.2 r (by omega) with h1 | h1
 ·rw [h1] at e
  exact absurd e (by decide)
 ·rw [←h1] at e⊢
  exact h r hr e
theorem dH {k:KV} {regs:List Int} (h:kH k regs) (i:Nat) (hi:i<k.length) (v:Int):kH (k.set i kno) (regs.set i v):=by
 intro r hr4 e
 rw [yU _ _ _ _ _ hi] at e⊢
 by_cases hri:r=i
 ·rw [if_pos hri] at e
  exact absurd e (by decide)
 ·rw [if_neg hri] at e⊢
  rw [h r hr4 e]
  simp [wCu,List.getElem?_set,show¬i=r from fun e=>hri e.symm]
theorem qIe {k:KV} {regs:List Int} (h:kH k regs) (i:Nat) (hi:i<k.length):kH (k.set i kno) regs:=by
 intro r hr4 e
 rw [yU _ _ _ _ _ hi] at e⊢
 by_cases hri:r=i
 ·rw [if_pos hri] at e
  exact absurd e (by decide)
 ·rw [if_neg hri] at e⊢
  exact h r hr4 e
theorem qMd {x:Ins} {k:KV} {regs:List Int} {c:jU} (hop:1≤x.op∧x.op≤13) (ho:Op4 x) (hk:k.length=4) (hr:regs.length=4) (h:kH k regs):kH (zS x k) (aF x regs c):=by
 obtain ⟨r0,r1,a0,a1,b0,b1⟩:=ho
 have hrr:x.r.toNat<k.length:=by omega
 have hrb:x.b.toNat<k.length:=by omega
 have hra:x.a.toNat<4:=by omega
 have hrb4:x.b.toNat<4:=by omega
 have hcase:x.op=1∨(x.op=2∨x.op=3∨x.op=4)∨x.op=5∨x.op=6∨x.op=7∨x.op=8∨9≤x.op:=by omega
 unfold zS aF eV vP oG
 rcases hcase with e | e | e | e | e | e | e
 ·simp only [e]
  simp only [if_pos,true_or,wEn,wEx]
  rw [List.set_set]
  exact qJt h hrr (by omega) fun _=>rfl
 ·have h1 :¬x.op=1:=by omega
  have hth:(decide (x.op=2)||decide (x.op=3)||decide (x.op=4))=true:=by simp [e,or_assoc]
  have hs:x.op=1∨x.op=2∨x.op=3∨x.op=4∨x.op=7:=by omega
  rw [if_neg h1,if_neg h1,if_pos e,if_pos hs,hth]
  simp only [wEn,wEx,Bool.true_and]
  split
  ·rename_i hc
   simp only [wCs] at hc
   rw [List.set_set,h _ hra hc.1,h _ hrb4 hc.2]
   exact qJt h hrr (by omega) fun _=>rfl
  ·exact dH h _ hrr _
 ·have e1 :¬(x.op=1∨x.op=2∨x.op=3∨x.op=4∨x.op=7):=by omega
  have e2 :¬(x.op=6∨x.op=8):=by omega
  rw [if_neg e1,if_neg e2]
  simp [e,qY,h]
 ·have e1 :¬(x.op=1∨x.op=2∨x.op=3∨x.op=4∨x.op=7):=by omega
  have e2:(x.op=6∨x.op=8):=by omega
  rw [if_neg e1,if_pos e2]
  simp only [e,qY,wW,wEn,wEx]
  simp only [show¬((6:Int)=1) by decide,show¬((6:Int)=5∨(6:Int)=7) by decide,if_neg,if_false,not_false_iff]
  simp
  exact dH (dH h _ hrr _) _ (by rw [wE9]; exact hrb) _
 ·have e1:(x.op=1∨x.op=2∨x.op=3∨x.op=4∨x.op=7):=by omega
  rw [if_pos e1]
  simp only [e,qY,wW,wEn,wEx]
  simp
  split
  ·exact qIe h _ hrr
  ·exact dH h _ hrr _
 ·have e1 :¬(x.op=1∨x.op=2∨x.op=3∨x.op=4∨x.op=7):=by omega
  have e2:(x.op=6∨x.op=8):=by omega
  rw [if_neg e1,if_pos e2]
  simp only [e,qY,wW,wEn,wEx]
  simp
  split
  ·exact dH (dH h _ hrr _) _ (by rw [wE9]; exact hrb) _
  ·exact dH (dH h _ hrr _) _ (by rw [wE9]; exact hrb) _
 ·have e1 :¬(x.op=1∨x.op=2∨x.op=3∨x.op=4∨x.op=7):=by omega
  have e2 :¬(x.op=6∨x.op=8):=by omega
  have e3 :¬(x.op=5∨x.op=7):=by omega
  have e4 :¬x.op=1:=by omega
  have e5 :¬(x.op=2∨x.op=3∨x.op=4):=by omega
  have hth:(decide (x.op=2)||decide (x.op=3)||decide (x.op=4))=false:=by simp; omega
  rw [if_neg e1,if_neg e2,if_neg e4,if_neg e4,if_neg e5,hth]
  simp only [Bool.false_and,Bool.false_eq_true,if_false,wEx]
  split
  ·unfold qY
   rw [if_neg e3,if_neg e2]
   exact h
  ·exact h
theorem qQh {x:Ins} {pl c:Int} (h:jE x pl c=true) (h0:0≤c) (h3:c≤3):jE x pl 3=true:=by
 obtain ⟨o1,o2,o3,o4⟩:=iJ h
 unfold jE at h⊢
 repeat' split at h
 all_goals (simp_all [qK])
 all_goals omega
theorem cY {l:List Ins} {c:Int} (h:wB l c=true):wB l 3=true:=by
 unfold wB at h⊢
 simp only [wCs,List.all_eq_true,qK,Bool.or_eq_true,decide_eq_true_eq] at h⊢
 obtain ⟨⟨⟨h1,h2⟩,h3⟩,h4⟩:=h
 exact ⟨⟨⟨by omega,h2⟩,fun x hx=>qQh (h3 x hx) h1.1 h1.2⟩,h4⟩
structure KnI (p:wK) (s:qU):Prop where
 ok:qZ p s=true
 kn :∀i,i<s.ths.length→kat (pH (body p i)) (thd s i).at_.toNat≠[]∧kH (kat (pH (body p i)) (thd s i).at_.toNat) (thd s i).regs
theorem rA {p:wK} {s:qU} (h:qZ p s=true) {i:Nat} (hi:i<s.ths.length):wB (body p i) 3=true:=by
 have hs:=(jF p s).1 h
 exact cY ((oU hs.1).2.2.2.2 _ (yL p.bods i [] (by omega)))
theorem lC {p:wK} {s:qU} (h:qZ p s=true) {i:Nat} (hi:i<s.ths.length):eV (ins p s i)=true→jQ (chn s (ins p s i).n.toNat)=true:=by
 intro hc
 unfold eV at hc
 simp only [wCs,decide_eq_true_eq] at hc
 have hA:=nY h hi
 exact (((jF p s).1 h).2.2.2.2.2 _ (hA.ch hc.1 hc.2).2).1
theorem tL {x:Ins} {regs:List Int} {c:jU} (hc:eV x=true→jQ c=true) (h:xU x regs c=false):aF x regs c=regs:=by
 unfold xU at h
 cases hi:eV x
 ·rw [hi,if_neg (by decide)] at h
  exact absurd h (by decide)
 rw [hi,if_pos rfl] at h
 have hc:=hc hi
 have hi2:=hi
 unfold eV at hi2
 simp only [wCs,decide_eq_true_eq] at hi2
 unfold aF
 rw [if_neg (by omega),if_neg (by omega),hi,if_pos rfl]
 unfold qY at h⊢
 split
 ·rename_i h57
  rw [if_pos h57] at h
  simp only [Bool.not_eq_false',decide_eq_true_eq] at h
  rw [if_neg (fun e=>e.2 h)]
 ·rename_i h57
  rw [if_neg h57] at h
  split
  ·rename_i h68
   rw [if_pos h68] at h
   simp only [Bool.not_eq_false',decide_eq_true_eq] at h
   exfalso
   unfold wQ at h
   rw [hc] at h
   simp only [Bool.not_true,Bool.false_eq_true,if_false] at h
   repeat' split at h
   all_goals (simp at h)
  ·rfl
theorem KnI.step {p:wK} {s:qU} (h:KnI p s) (who:Int):KnI p (qM p s who).1:=by
 refine ⟨gF who h.ok,?_⟩
 unfold qM
 split
 case isFalse=>exact h.kn
 rename_i hcode
 obtain ⟨w0,w1⟩:=qBe hcode
 obtain ⟨i,rfl⟩:=Int.eq_ofNat_of_zero_le w0
 simp only [Int.toNat_natCast] at w1⊢
 have hA:=nY h.ok w1
 have hb3:=rA h.ok w1
 have hlf:=eG _ hb3
 obtain ⟨k1,k2⟩:=h.kn i w1
 have hat:(thd s i).at_.toNat<(body p i).length:=hA.at1
 have hwf:=(hlf.inv.wf (thd s i).at_.toNat).resolve_left k1
 have ho4:Op4 (ins p s i):=⟨hA.r0,by have:=hA.r1; omega,hA.a0,by have:=hA.a1; omega,hA.b0,by have:=hA.b1; omega⟩
 have hbh:=qMd (c:=chn s (ins p s i).n.toNat) hA.op ho4 hwf.1 hA.regs k2
 have go :∀(t:yO) (chs:List jU) (tr:List bM),(kat (pH (body p i)) t.at_.toNat≠[]∧kH (kat (pH (body p i)) t.at_.toNat) t.regs)→∀j,j<s.ths.length→kat (pH (body p j)) (thd ⟨s.ths.set i t,chs,tr⟩ j).at_.toNat≠[]∧kH (kat (pH (body p j)) (thd ⟨s.ths.set i t,chs,tr⟩ j).at_.toNat) (thd ⟨s.ths.set i t,chs,tr⟩ j).regs:=by
  intro t chs tr ht j hj
  rw [iX t w1]
  split
  ·rename_i e
   rw [e]
   exact ht
  ·exact h.kn j hj
 have hw:=kL h.ok w1
 generalize wH p s i=S at hw
 cases hw with
 | ended h13 =>
  intro j hj
  exact go ⟨(thd s i).at_,(thd s i).regs,1⟩ _ _ ⟨k1,k2⟩ j (by simpa using hj)
 | fault hf =>
  intro j hj
  refine go ⟨(thd s i).at_,aF (ins p s i) (thd s i).regs (chn s (ins p s i).n.toNat),2⟩ _ _ ⟨k1,?_⟩ j (by simpa using hj)
  simp only
  rw [tL (lC h.ok w1) hf]
  exact k2
 | next n hok h13 hn hl hm =>
  intro j hj
  have he:=hlf.edge _ hat k1 n hm
  rw [Int.toNat_natCast] at he
  refine go ⟨n,aF (ins p s i) (thd s i).regs (chn s (ins p s i).n.toNat),(thd s i).st⟩ _ _ ⟨by simpa using he.1,?_⟩ j (by simpa using hj)
  simp only [Int.toNat_natCast]
  have hx:(body p i).getD (thd s i).at_.toNat default=ins p s i:=rfl
  rw [hx] at he
  exact qJs hbh (by rw [he.2.1]; exact ((hlf.inv.wf n).resolve_left he.1).1) he.2
theorem KnI.new {p:wK} (h:wY p=true):KnI p (wE p).1:=by
 refine ⟨bQ h,?_⟩
 have hs:(wE p).1=⟨List.replicate p.bods.length zC,p.caps.map fun c=>⟨c,[],false⟩,[]⟩:=by
  unfold wE
  rw [if_pos h]
 intro i hi
 have hlf:=eG _ (rA (bQ h) hi)
 rw [hs] at hi⊢
 have hi':i<p.bods.length:=by simpa using hi
 have ht:thd ⟨List.replicate p.bods.length zC,p.caps.map fun c=>⟨c,[],false⟩,[]⟩ i=zC:=by
  unfold thd
  simp [wCu,hi']
 rw [ht]
 refine ⟨hlf.inv.init.1,qJs (a:=qJm) ?_ rfl hlf.inv.init.2⟩
 intro r hr _
 have:r=0∨r=1∨r=2∨r=3:=by omega
 rcases this with rfl | rfl | rfl | rfl<;>rfl
end Go.Sep
