/- Contracts of functions. -/
import Derived.Test.YtbfklilhgekabaaPxx18
open Bool renaming and_eq_true → qXa
open List renaming foldl_cons → qZ4, foldl_nil → qZb, length_set → qYr
namespace Go.Sep
set_option maxHeartbeats 16000000
open Go.Proofs
set_option linter.unusedSimpArgs false
set_option linter.unusedVariables false
set_option maxRecDepth 100000
def iS (k:KV) (regs:List Int):Prop :=∀r:Nat,r<4→(k.getD r default).is_=true→(k.getD r default).v=regs.getD r 0
theorem qGi {k:KV} {regs:List Int} (h:iS k regs) {i:Nat} (hi:i<k.length) (hr:i<regs.length) {a:bC} {v:Int} (ha:a.is_=true→a.v=v):iS (k.set i a) (regs.set i v):=by
 intro r hr4 e
 rw [jG _ _ _ _ _ hi] at e⊢
 rw [jG _ _ _ _ _ hr]
 split
 ·rename_i hri
  rw [if_pos hri] at e
  exact ha e
 ·rename_i hri
  rw [if_neg hri] at e
  exact h r hr4 e
theorem qQg {a b:KV} {regs:List Int} (h:iS a regs) (hl:a.length=4) (hv:vle a b):iS b regs:=by
 intro r hr e
 rcases hv.2 r (by omega) with h1 | h1
 ·rw [h1] at e
  exact absurd e (by decide)
 ·rw [←h1] at e⊢
  exact h r hr e
theorem gL {k:KV} {regs:List Int} (h:iS k regs) (i:Nat) (hi:i<k.length) (v:Int):iS (k.set i kno) (regs.set i v):=by
 intro r hr4 e
 rw [jG _ _ _ _ _ hi] at e⊢
 by_cases hri:r=i
 ·rw [if_pos hri] at e
  exact absurd e (by decide)
 ·rw [if_neg hri] at e⊢
  rw [h r hr4 e]
  simp [List.getD_eq_getElem?_getD,List.getElem?_set,show¬i=r from fun e=>hri e.symm]
theorem qFd {k:KV} {regs:List Int} (h:iS k regs) (i:Nat) (hi:i<k.length):iS (k.set i kno) regs:=by
 intro r hr4 e
 rw [jG _ _ _ _ _ hi] at e⊢
 by_cases hri:r=i
 ·rw [if_pos hri] at e
  exact absurd e (by decide)
 ·rw [if_neg hri] at e⊢
  exact h r hr4 e
theorem qIz {x:Ins} {k:KV} {regs:List Int} {c:jP} (hop:1≤x.op∧x.op≤13) (ho:Op4 x) (hk:k.length=4) (hr:regs.length=4) (h:iS k regs):iS (cW x k) (qBz x regs c):=by
 obtain ⟨r0,r1,a0,a1,b0,b1⟩:=ho
 have hrr:x.r.toNat<k.length:=by omega
 have hrb:x.b.toNat<k.length:=by omega
 have hra:x.a.toNat<4:=by omega
 have hrb4:x.b.toNat<4:=by omega
 have hcase:x.op=1∨(x.op=2∨x.op=3∨x.op=4)∨x.op=5∨x.op=6∨x.op=7∨x.op=8∨9≤x.op:=by omega
 unfold cW qBz sM qJi qO3
 rcases hcase with e | e | e | e | e | e | e
 ·simp only [e]
  simp only [if_pos,true_or,qZ4,qZb]
  rw [List.set_set]
  exact qGi h hrr (by omega) fun _=>rfl
 ·have h1 :¬x.op=1:=by omega
  have hth:(decide (x.op=2)||decide (x.op=3)||decide (x.op=4))=true:=by simp [e,or_assoc]
  have hs:x.op=1∨x.op=2∨x.op=3∨x.op=4∨x.op=7:=by omega
  rw [if_neg h1,if_neg h1,if_pos e,if_pos hs,hth]
  simp only [qZ4,qZb,Bool.true_and]
  split
  ·rename_i hc
   simp only [qXa] at hc
   rw [List.set_set,h _ hra hc.1,h _ hrb4 hc.2]
   exact qGi h hrr (by omega) fun _=>rfl
  ·exact gL h _ hrr _
 ·have e1 :¬(x.op=1∨x.op=2∨x.op=3∨x.op=4∨x.op=7):=by omega
  have e2 :¬(x.op=6∨x.op=8):=by omega
  rw [if_neg e1,if_neg e2]
  simp [e,qU,h]
 ·have e1 :¬(x.op=1∨x.op=2∨x.op=3∨x.op=4∨x.op=7):=by omega
  have e2:(x.op=6∨x.op=8):=by omega
  rw [if_neg e1,if_pos e2]
  simp only [e,qU,wR,qZ4,qZb]
  simp only [show¬((6:Int)=1) by decide,show¬((6:Int)=5∨(6:Int)=7) by decide,if_neg,if_false,not_false_iff]
  simp
  exact gL (gL h _ hrr _) _ (by rw [qYr]; exact hrb) _
 ·have e1:(x.op=1∨x.op=2∨x.op=3∨x.op=4∨x.op=7):=by omega
  rw [if_pos e1]
  simp only [e,qU,wR,qZ4,qZb]
  simp
  split
  ·exact qFd h _ hrr
  ·exact gL h _ hrr _
 ·have e1 :¬(x.op=1∨x.op=2∨x.op=3∨x.op=4∨x.op=7):=by omega
  have e2:(x.op=6∨x.op=8):=by omega
  rw [if_neg e1,if_pos e2]
  simp only [e,qU,wR,qZ4,qZb]
  simp
  split
  ·exact gL (gL h _ hrr _) _ (by rw [qYr]; exact hrb) _
  ·exact gL (gL h _ hrr _) _ (by rw [qYr]; exact hrb) _
 ·have e1 :¬(x.op=1∨x.op=2∨x.op=3∨x.op=4∨x.op=7):=by omega
  have e2 :¬(x.op=6∨x.op=8):=by omega
  have e3 :¬(x.op=5∨x.op=7):=by omega
  have e4 :¬x.op=1:=by omega
  have e5 :¬(x.op=2∨x.op=3∨x.op=4):=by omega
  have hth:(decide (x.op=2)||decide (x.op=3)||decide (x.op=4))=false:=by simp; omega
  rw [if_neg e1,if_neg e2,if_neg e4,if_neg e4,if_neg e5,hth]
  simp only [Bool.false_and,Bool.false_eq_true,if_false,qZb]
  split
  ·unfold qU
   rw [if_neg e3,if_neg e2]
   exact h
  ·exact h
theorem qMq {x:Ins} {pl c:Int} (h:yZ x pl c=true) (h0:0≤c) (h3:c≤3):yZ x pl 3=true:=by
 obtain ⟨o1,o2,o3,o4⟩:=mY h
 unfold yZ at h⊢
 repeat' split at h
 all_goals (simp_all [qK])
 all_goals omega
theorem nO {l:List Ins} {c:Int} (h:wN l c=true):wN l 3=true:=by
 unfold wN at h⊢
 simp only [qXa,List.all_eq_true,qK,Bool.or_eq_true,decide_eq_true_eq] at h⊢
 obtain ⟨⟨⟨h1,h2⟩,h3⟩,h4⟩:=h
 exact ⟨⟨⟨by omega,h2⟩,fun x hx=>qMq (h3 x hx) h1.1 h1.2⟩,h4⟩
structure KnI (p:wJ) (s:qR):Prop where
 ok:qW p s=true
 kn :∀i,i<s.ths.length→kat (qKd (body p i)) (thd s i).at_.toNat≠[]∧iS (kat (qKd (body p i)) (thd s i).at_.toNat) (thd s i).regs
theorem qEi {p:wJ} {s:qR} (h:qW p s=true) {i:Nat} (hi:i<s.ths.length):wN (body p i) 3=true:=by
 have hs:=(yW p s).1 h
 exact nO ((mF hs.1).2.2.2.2 _ (jD p.bods i [] (by omega)))
theorem qF2 {p:wJ} {s:qR} (h:qW p s=true) {i:Nat} (hi:i<s.ths.length):sM (ins p s i)=true→jJ (chn s (ins p s i).n.toNat)=true:=by
 intro hc
 unfold sM at hc
 simp only [qXa,decide_eq_true_eq] at hc
 have hA:=tK h hi
 exact (((yW p s).1 h).2.2.2.2.2 _ (hA.ch hc.1 hc.2).2).1
theorem qMt {x:Ins} {regs:List Int} {c:jP} (hc:sM x=true→jJ c=true) (h:pB x regs c=false):qBz x regs c=regs:=by
 unfold pB at h
 cases hi:sM x
 ·rw [hi,if_neg (by decide)] at h
  exact absurd h (by decide)
 rw [hi,if_pos rfl] at h
 have hc:=hc hi
 have hi2:=hi
 unfold sM at hi2
 simp only [qXa,decide_eq_true_eq] at hi2
 unfold qBz
 rw [if_neg (by omega),if_neg (by omega),hi,if_pos rfl]
 unfold qU at h⊢
 split
 ·rename_i h57
  rw [if_pos h57] at h
  simp only [Bool.not_eq_false',decide_eq_true_eq] at h
  rw [if_neg (fun e=>e.2 h)]
 ·rename_i h57
  rw [if_neg h57] at h
  split
  ·rename_i h68
   rw [if_pos h68] at h
   simp only [Bool.not_eq_false',decide_eq_true_eq] at h
   exfalso
   unfold wE at h
   rw [hc] at h
   simp only [Bool.not_true,Bool.false_eq_true,if_false] at h
   repeat' split at h
   all_goals (simp at h)
  ·rfl
theorem KnI.step {p:wJ} {s:qR} (h:KnI p s) (who:Int):KnI p (qQ p s who).1:=by
 refine ⟨aG who h.ok,?_⟩
 unfold qQ
 split
 case isFalse=>exact h.kn
 rename_i hcode
 obtain ⟨w0,w1⟩:=tD hcode
 obtain ⟨i,rfl⟩:=Int.eq_ofNat_of_zero_le w0
 simp only [Int.toNat_natCast] at w1⊢
 have hA:=tK h.ok w1
 have hb3:=qEi h.ok w1
 have hlf:=qSp _ hb3
 obtain ⟨k1,k2⟩:=h.kn i w1
 have hat:(thd s i).at_.toNat<(body p i).length:=hA.at1
 have hwf:=(hlf.inv.wf (thd s i).at_.toNat).resolve_left k1
 have ho4:Op4 (ins p s i):=⟨hA.r0,by have:=hA.r1; omega,hA.a0,by have:=hA.a1; omega,hA.b0,by have:=hA.b1; omega⟩
 have hbh:=qIz (c:=chn s (ins p s i).n.toNat) hA.op ho4 hwf.1 hA.regs k2
 have go :∀(t:yH) (chs:List jP) (tr:List bB),(kat (qKd (body p i)) t.at_.toNat≠[]∧iS (kat (qKd (body p i)) t.at_.toNat) t.regs)→∀j,j<s.ths.length→kat (qKd (body p j)) (thd ⟨s.ths.set i t,chs,tr⟩ j).at_.toNat≠[]∧iS (kat (qKd (body p j)) (thd ⟨s.ths.set i t,chs,tr⟩ j).at_.toNat) (thd ⟨s.ths.set i t,chs,tr⟩ j).regs:=by
  intro t chs tr ht j hj
  rw [nV t w1]
  split
  ·rename_i e
   rw [e]
   exact ht
  ·exact h.kn j hj
 have hw:=nE h.ok w1
 generalize wD p s i=S at hw
 cases hw with
 | ended h13 =>
  intro j hj
  exact go ⟨(thd s i).at_,(thd s i).regs,1⟩ _ _ ⟨k1,k2⟩ j (by simpa using hj)
 | fault hf =>
  intro j hj
  refine go ⟨(thd s i).at_,qBz (ins p s i) (thd s i).regs (chn s (ins p s i).n.toNat),2⟩ _ _ ⟨k1,?_⟩ j (by simpa using hj)
  simp only
  rw [qMt (qF2 h.ok w1) hf]
  exact k2
 | next n hok h13 hn hl hm =>
  intro j hj
  have he:=hlf.edge _ hat k1 n hm
  rw [Int.toNat_natCast] at he
  refine go ⟨n,qBz (ins p s i) (thd s i).regs (chn s (ins p s i).n.toNat),(thd s i).st⟩ _ _ ⟨by simpa using he.1,?_⟩ j (by simpa using hj)
  simp only [Int.toNat_natCast]
  have hx:(body p i).getD (thd s i).at_.toNat default=ins p s i:=rfl
  rw [hx] at he
  exact qQg hbh (by rw [he.2.1]; exact ((hlf.inv.wf n).resolve_left he.1).1) he.2
end Go.Sep
