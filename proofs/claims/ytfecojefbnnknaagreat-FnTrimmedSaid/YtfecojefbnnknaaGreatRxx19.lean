/- Contracts of functions. -/
import Derived.Test.YtfecojefbnnknaaGreatRxx18
open Bool renaming and_eq_true → wBp
open List renaming foldl_cons → wDl, foldl_nil → wDs, length_set → wD6
namespace Go.Sep
set_option maxHeartbeats 16000000
open Go.Proofs
set_option linter.unusedSimpArgs false
set_option linter.unusedVariables false
set_option maxRecDepth 100000
def lH (k:KV) (regs:List Int):Prop :=∀r:Nat,r<4→(k.getD r default).is_=true→(k.getD r default).v=regs.getD r 0
theorem qJ9 {k:KV} {regs:List Int} (h:lH k regs) {i:Nat} (hi:i<k.length) (hr:i<regs.length) {a:bQ} {v:Int} (ha:a.is_=true→a.v=v):lH (k.set i a) (regs.set i v):=by
 intro r hr4 e
 rw [jL _ _ _ _ _ hi] at e⊢
 rw [jL _ _ _ _ _ hr]
 split
 ·rename_i hri
  rw [if_pos hri] at e
  exact ha e
 ·rename_i hri
  rw [if_neg hri] at e
  exact h r hr4 e
theorem qJ8 {a b:KV} {regs:List Int} (h:lH a regs) (hl:a.length=4) (hv:vle a b):lH b regs:=by
 intro r hr e
 rcases hv.2 r (by omega) with h1 | h1
 ·rw [h1] at e
  exact absurd e (by decide)
 ·rw [←h1] at e⊢
  exact h r hr e
theorem dF {k:KV} {regs:List Int} (h:lH k regs) (i:Nat) (hi:i<k.length) (v:Int):lH (k.set i kno) (regs.set i v):=by
 intro r hr4 e
 rw [jL _ _ _ _ _ hi] at e⊢
 by_cases hri:r=i
 ·rw [if_pos hri] at e
  exact absurd e (by decide)
 ·rw [if_neg hri] at e⊢
  rw [h r hr4 e]
  simp [List.getD_eq_getElem?_getD,List.getElem?_set,show¬i=r from fun e=>hri e.symm]
theorem qHs {k:KV} {regs:List Int} (h:lH k regs) (i:Nat) (hi:i<k.length):lH (k.set i kno) regs:=by
 intro r hr4 e
 rw [jL _ _ _ _ _ hi] at e⊢
 by_cases hri:r=i
 ·rw [if_pos hri] at e
  exact absurd e (by decide)
 ·rw [if_neg hri] at e⊢
  exact h r hr4 e
theorem qM0 {x:Ins} {k:KV} {regs:List Int} {c:jZ} (hop:1≤x.op∧x.op≤13) (ho:Op4 x) (hk:k.length=4) (hr:regs.length=4) (h:lH k regs):lH (hO x k) (cU x regs c):=by
 obtain ⟨r0,r1,a0,a1,b0,b1⟩:=ho
 have hrr:x.r.toNat<k.length:=by omega
 have hrb:x.b.toNat<k.length:=by omega
 have hra:x.a.toNat<4:=by omega
 have hrb4:x.b.toNat<4:=by omega
 have hcase:x.op=1∨(x.op=2∨x.op=3∨x.op=4)∨x.op=5∨x.op=6∨x.op=7∨x.op=8∨9≤x.op:=by omega
 unfold hO cU mJ uR nO
 rcases hcase with e | e | e | e | e | e | e
 ·simp only [e]
  simp only [if_pos,true_or,wDl,wDs]
  rw [List.set_set]
  exact qJ9 h hrr (by omega) fun _=>rfl
 ·have h1 :¬x.op=1:=by omega
  have hth:(decide (x.op=2)||decide (x.op=3)||decide (x.op=4))=true:=by simp [e,or_assoc]
  have hs:x.op=1∨x.op=2∨x.op=3∨x.op=4∨x.op=7:=by omega
  rw [if_neg h1,if_neg h1,if_pos e,if_pos hs,hth]
  simp only [wDl,wDs,Bool.true_and]
  split
  ·rename_i hc
   simp only [wBp] at hc
   rw [List.set_set,h _ hra hc.1,h _ hrb4 hc.2]
   exact qJ9 h hrr (by omega) fun _=>rfl
  ·exact dF h _ hrr _
 ·have e1 :¬(x.op=1∨x.op=2∨x.op=3∨x.op=4∨x.op=7):=by omega
  have e2 :¬(x.op=6∨x.op=8):=by omega
  rw [if_neg e1,if_neg e2]
  simp [e,wC,h]
 ·have e1 :¬(x.op=1∨x.op=2∨x.op=3∨x.op=4∨x.op=7):=by omega
  have e2:(x.op=6∨x.op=8):=by omega
  rw [if_neg e1,if_pos e2]
  simp only [e,wC,wV,wDl,wDs]
  simp only [show¬((6:Int)=1) by decide,show¬((6:Int)=5∨(6:Int)=7) by decide,if_neg,if_false,not_false_iff]
  simp
  exact dF (dF h _ hrr _) _ (by rw [wD6]; exact hrb) _
 ·have e1:(x.op=1∨x.op=2∨x.op=3∨x.op=4∨x.op=7):=by omega
  rw [if_pos e1]
  simp only [e,wC,wV,wDl,wDs]
  simp
  split
  ·exact qHs h _ hrr
  ·exact dF h _ hrr _
 ·have e1 :¬(x.op=1∨x.op=2∨x.op=3∨x.op=4∨x.op=7):=by omega
  have e2:(x.op=6∨x.op=8):=by omega
  rw [if_neg e1,if_pos e2]
  simp only [e,wC,wV,wDl,wDs]
  simp
  split
  ·exact dF (dF h _ hrr _) _ (by rw [wD6]; exact hrb) _
  ·exact dF (dF h _ hrr _) _ (by rw [wD6]; exact hrb) _
 ·have e1 :¬(x.op=1∨x.op=2∨x.op=3∨x.op=4∨x.op=7):=by omega
  have e2 :¬(x.op=6∨x.op=8):=by omega
  have e3 :¬(x.op=5∨x.op=7):=by omega
  have e4 :¬x.op=1:=by omega
  have e5 :¬(x.op=2∨x.op=3∨x.op=4):=by omega
  have hth:(decide (x.op=2)||decide (x.op=3)||decide (x.op=4))=false:=by simp; omega
  rw [if_neg e1,if_neg e2,if_neg e4,if_neg e4,if_neg e5,hth]
  simp only [Bool.false_and,Bool.false_eq_true,if_false,wDs]
  split
  ·unfold wC
   rw [if_neg e3,if_neg e2]
   exact h
  ·exact h
theorem qQc {x:Ins} {pl c:Int} (h:jJ x pl c=true) (h0:0≤c) (h3:c≤3):jJ x pl 3=true:=by
 obtain ⟨o1,o2,o3,o4⟩:=oX h
 unfold jJ at h⊢
 repeat' split at h
 all_goals (simp_all [qL])
 all_goals omega
theorem qDl {l:List Ins} {c:Int} (h:wF l c=true):wF l 3=true:=by
 unfold wF at h⊢
 simp only [wBp,List.all_eq_true,qL,Bool.or_eq_true,decide_eq_true_eq] at h⊢
 obtain ⟨⟨⟨h1,h2⟩,h3⟩,h4⟩:=h
 exact ⟨⟨⟨by omega,h2⟩,fun x hx=>qQc (h3 x hx) h1.1 h1.2⟩,h4⟩
structure KnI (p:wQ) (s:wA):Prop where
 ok:wG p s=true
 kn :∀i,i<s.ths.length→kat (qNw (body p i)) (thd s i).at_.toNat≠[]∧lH (kat (qNw (body p i)) (thd s i).at_.toNat) (thd s i).regs
theorem qOv {p:wQ} {s:wA} (h:wG p s=true) {i:Nat} (hi:i<s.ths.length):wF (body p i) 3=true:=by
 have hs:=(jE p s).1 h
 exact qDl ((oB hs.1).2.2.2.2 _ (yB p.bods i [] (by omega)))
theorem kC {p:wQ} {s:wA} (h:wG p s=true) {i:Nat} (hi:i<s.ths.length):mJ (ins p s i)=true→jT (chn s (ins p s i).n.toNat)=true:=by
 intro hc
 unfold mJ at hc
 simp only [wBp,decide_eq_true_eq] at hc
 have hA:=qB4 h hi
 exact (((jE p s).1 h).2.2.2.2.2 _ (hA.ch hc.1 hc.2).2).1
theorem sX {x:Ins} {regs:List Int} {c:jZ} (hc:mJ x=true→jT c=true) (h:cB x regs c=false):cU x regs c=regs:=by
 unfold cB at h
 cases hi:mJ x
 ·rw [hi,if_neg (by decide)] at h
  exact absurd h (by decide)
 rw [hi,if_pos rfl] at h
 have hc:=hc hi
 have hi2:=hi
 unfold mJ at hi2
 simp only [wBp,decide_eq_true_eq] at hi2
 unfold cU
 rw [if_neg (by omega),if_neg (by omega),hi,if_pos rfl]
 unfold wC at h⊢
 split
 ·rename_i h57
  rw [if_pos h57] at h
  simp only [Bool.not_eq_false',decide_eq_true_eq] at h
  rw [if_neg (fun e=>e.2 h)]
 ·rename_i h57
  rw [if_neg h57] at h
  split
  ·rename_i h68
   rw [if_pos h68] at h
   simp only [Bool.not_eq_false',decide_eq_true_eq] at h
   exfalso
   unfold wP at h
   rw [hc] at h
   simp only [Bool.not_true,Bool.false_eq_true,if_false] at h
   repeat' split at h
   all_goals (simp at h)
  ·rfl
theorem KnI.step {p:wQ} {s:wA} (h:KnI p s) (who:Int):KnI p (qX p s who).1:=by
 refine ⟨dV who h.ok,?_⟩
 unfold qX
 split
 case isFalse=>exact h.kn
 rename_i hcode
 obtain ⟨w0,w1⟩:=qEe hcode
 obtain ⟨i,rfl⟩:=Int.eq_ofNat_of_zero_le w0
 simp only [Int.toNat_natCast] at w1⊢
 have hA:=qB4 h.ok w1
 have hb3:=qOv h.ok w1
 have hlf:=qNv _ hb3
 obtain ⟨k1,k2⟩:=h.kn i w1
 have hat:(thd s i).at_.toNat<(body p i).length:=hA.at1
 have hwf:=(hlf.inv.wf (thd s i).at_.toNat).resolve_left k1
 have ho4:Op4 (ins p s i):=⟨hA.r0,by have:=hA.r1; omega,hA.a0,by have:=hA.a1; omega,hA.b0,by have:=hA.b1; omega⟩
 have hbh:=qM0 (c:=chn s (ins p s i).n.toNat) hA.op ho4 hwf.1 hA.regs k2
 have go :∀(t:yP) (chs:List jZ) (tr:List bP),(kat (qNw (body p i)) t.at_.toNat≠[]∧lH (kat (qNw (body p i)) t.at_.toNat) t.regs)→∀j,j<s.ths.length→kat (qNw (body p j)) (thd ⟨s.ths.set i t,chs,tr⟩ j).at_.toNat≠[]∧lH (kat (qNw (body p j)) (thd ⟨s.ths.set i t,chs,tr⟩ j).at_.toNat) (thd ⟨s.ths.set i t,chs,tr⟩ j).regs:=by
  intro t chs tr ht j hj
  rw [pP t w1]
  split
  ·rename_i e
   rw [e]
   exact ht
  ·exact h.kn j hj
 have hw:=qD4 h.ok w1
 generalize wN p s i=S at hw
 cases hw with
 | ended h13 =>
  intro j hj
  exact go ⟨(thd s i).at_,(thd s i).regs,1⟩ _ _ ⟨k1,k2⟩ j (by simpa using hj)
 | fault hf =>
  intro j hj
  refine go ⟨(thd s i).at_,cU (ins p s i) (thd s i).regs (chn s (ins p s i).n.toNat),2⟩ _ _ ⟨k1,?_⟩ j (by simpa using hj)
  simp only
  rw [sX (kC h.ok w1) hf]
  exact k2
 | next n hok h13 hn hl hm =>
  intro j hj
  have he:=hlf.edge _ hat k1 n hm
  rw [Int.toNat_natCast] at he
  refine go ⟨n,cU (ins p s i) (thd s i).regs (chn s (ins p s i).n.toNat),(thd s i).st⟩ _ _ ⟨by simpa using he.1,?_⟩ j (by simpa using hj)
  simp only [Int.toNat_natCast]
  have hx:(body p i).getD (thd s i).at_.toNat default=ins p s i:=rfl
  rw [hx] at he
  exact qJ8 hbh (by rw [he.2.1]; exact ((hlf.inv.wf n).resolve_left he.1).1) he.2
theorem KnI.new {p:wQ} (h:yR p=true):KnI p (yJ p).1:=by
 refine ⟨dC h,?_⟩
 have hs:(yJ p).1=⟨List.replicate p.bods.length zT,p.caps.map fun c=>⟨c,[],false⟩,[]⟩:=by
  unfold yJ
  rw [if_pos h]
 intro i hi
 have hlf:=qNv _ (qOv (dC h) hi)
 rw [hs] at hi⊢
 have hi':i<p.bods.length:=by simpa using hi
 have ht:thd ⟨List.replicate p.bods.length zT,p.caps.map fun c=>⟨c,[],false⟩,[]⟩ i=zT:=by
  unfold thd
  simp [List.getD_eq_getElem?_getD,hi']
 rw [ht]
 refine ⟨hlf.inv.init.1,qJ8 (a:=qNu) ?_ rfl hlf.inv.init.2⟩
 intro r hr _
 have:r=0∨r=1∨r=2∨r=3:=by omega
 rcases this with rfl | rfl | rfl | rfl<;>rfl
end Go.Sep
