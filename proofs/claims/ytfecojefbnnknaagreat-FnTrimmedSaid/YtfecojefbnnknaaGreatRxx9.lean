/- Contracts of functions. -/
import Derived.Test.YtfecojefbnnknaaGreatRxx8
open Bool renaming and_eq_true → wBp
open List renaming getD_eq_getElem?_getD → wBr, length_append → wC5, replicate → wBj
namespace Go.Sep
set_option maxHeartbeats 16000000
open Go.Proofs
set_option linter.unusedSimpArgs false
set_option linter.unusedVariables false
set_option maxRecDepth 100000
def qKd (cs:List (List wZ)) (v:List Int):Bool:=decide (v.length=cs.length)&&(List.range v.length).all fun i=>qW (v.getD i 0) 0 ((cs.getD i []).length-1)
def qSj (cs:List (List wZ)) (c:List wZ):Bool:=qW c.length 1 4000&&c.all fun w=>qKd cs w.view
def oK (cs:List (List wZ)):Bool:=cs.all (qSj cs)&&decide (cs.length=24)
def qQm (m:qT) (i:Nat):Bool:=qQp (m.codes.getD i [])&&decide ((m.cores.getD i default).regs.length=8)&&qW (m.cores.getD i default).at_ 0 ((m.codes.getD i []).length-1)&&qW (m.cores.getD i default).st 0 2&&qKd m.mem.cells (m.cores.getD i default).view
def fD (m:qT):Bool:=qW m.codes.length 1 4&&decide (m.cores.length=m.codes.length)&&oK m.mem.cells&&zV m.tr m.cores.length&&(List.range m.cores.length).all (qQm m)
theorem pU {p:Nat→Bool} {n:Nat}:(List.range n).all p=true↔∀i,i<n→p i=true:=by simp [List.all_eq_true]
def join:List Int→List Int→List Int
 | a::l,b::k=>max a b::join l k
 | _,_=>[]
def load (cs:List (List wZ)) (view:List Int) (cell:Nat) (late:Int) (hold:Bool):Int×List Int :=
 let l:=cs.getD cell []
 let at_:=max ((l.length:Int)-1-max late 0) (view.getD cell 0)
 let w:=l.getD at_.toNat default
 (w.v,if hold then join (view.set cell at_) w.view else view.set cell at_)
def store (cs:List (List wZ)) (view:List Int) (cell:Nat) (v:Int) (go:Bool):List (List wZ)×List Int :=
 let n:Int:=(cs.getD cell []).length
 let out:=view.set cell n
 (cs.set cell (cs.getD cell []++[⟨v,if go then out else (wBj 24 0).set cell n⟩]),out)
def rg (k:uL) (r:Int):Int:=k.regs.getD r.toNat 0
def qBf (k:uL) (r v:Int):uL:={k with regs:=k.regs.set r.toNat v}
def qJ (m:qT) (i:Nat):uL:=m.cores.getD i default
def qS (m:qT) (i:Nat):jB:=(m.codes.getD i []).getD (qJ m i).at_.toNat default
def bF (k:uL) (s:jB):Int:=if s.op≠8∧0≤s.a then IntKind.i64.wrap (s.n+rg k s.a) else s.n
def dQ (m:qT) (i:Nat) (k:uL):qT:={m with cores:=m.cores.set i k}
def stop (m:qT) (i:Nat) (st:Int):qT:=dQ m i {qJ m i with st:=st}
def qHt (m:qT) (i:Nat) (k:uL) (next:Int):qT :=
 if ((m.codes.getD i []).length:Int)≤next then dQ m i {k with st:=2} else dQ m i {k with at_:=next}
def cA (op:Int):Bool:=decide (op=5)||decide (op=6)||decide (op=7)||decide (op=8)
def eZ (m:qT) (who:Int):Int :=
 if qW who 0 (m.cores.length-1) then
  let k:=qJ m who.toNat
  let s:=qS m who.toNat
  if k.st≠0∨(s.op=9∧(m.tr.length:Int)=4000) then 3
  else if cA s.op&&!decide (s.op=5)&&qW (bF k s) 0 23&&decide ((4000:Int)≤(m.mem.cells.getD (bF k s).toNat []).length) then 3
  else 0
 else 2
def dM (cs:List (List wZ)) (k:uL) (s:jB) (cell:Nat) (late:Int):List (List wZ)×uL :=
 if s.op=5 then
  let r:=load cs k.view cell late false
  (cs,{k with regs:=k.regs.set s.r.toNat r.1,view:=r.2})
 else if s.op=8 then
  let r:=load cs k.view cell 0 true
  let w:=store cs r.2 cell (rg k s.b) true
  (w.1,{k with regs:=k.regs.set s.r.toNat r.1,view:=w.2})
 else
  let w:=store cs k.view cell (rg k s.b) (decide (s.op=7))
  (w.1,{k with view:=w.2})
def alu (k:uL) (s:jB):uL :=
 if s.op=1 then qBf k s.r s.n
 else if s.op=2 then qBf k s.r (IntKind.i64.wrap (rg k s.a+rg k s.b))
 else if s.op=3 then qBf k s.r (IntKind.i64.wrap (rg k s.a-rg k s.b))
 else if s.op=4 then qBf k s.r (vV (decide (rg k s.a<rg k s.b)))
 else k
def gQ (k:uL) (s:jB):Int:=if s.op=10 then s.n else if s.op=11∧rg k s.a=0 then s.n else k.at_+1
def mdo (m:qT) (i:Nat) (late:Int):qT :=
 let k:=qJ m i
 let s:=qS m i
 if s.op=12 then stop m i 1
 else if s.op=13 then stop m i 2
 else if cA s.op then
  if qW (bF k s) 0 23 then
   let r:=dM m.mem.cells k s (bF k s).toNat late
   qHt {m with mem:=⟨r.1⟩} i r.2 (k.at_+1)
  else stop m i 2
 else if s.op=9 then qHt {m with tr:=m.tr++[⟨i,rg k s.a⟩]} i k (k.at_+1)
 else qHt m i (alu k s) (gQ k s)
def jD (m:qT) (x:qDz):qT×Int:=if eZ m x.who=0 then (mdo m x.who.toNat x.late,0) else (m,eZ m x.who)
def VOk (cs:List (List wZ)) (v:List Int):Prop:=v.length=24∧∀i,i<24→0≤v.getD i 0∧v.getD i 0<((cs.getD i []).length:Int)
structure qE0 (cs:List (List wZ)):Prop where
 len:cs.length=24
 cell :∀i,i<24→1≤(cs.getD i []).length∧(cs.getD i []).length≤4000
 view :∀i,i<24→∀w∈cs.getD i [],VOk cs w.view
theorem sH {cs:List (List wZ)} (hc:cs.length=24) (v:List Int):qKd cs v=true↔VOk cs v:=by
 unfold qKd VOk
 simp only [wBp,decide_eq_true_eq,pU,qL,hc]
 constructor
 ·rintro ⟨h1,h2⟩
  exact ⟨h1,fun i hi=>by have:=h2 i (by omega); omega⟩
 ·rintro ⟨h1,h2⟩
  exact ⟨h1,fun i hi=>by have:=h2 i (by omega); omega⟩
theorem qAb (cs:List (List wZ)):oK cs=true↔qE0 cs:=by
 unfold oK qSj
 simp only [wBp,decide_eq_true_eq,List.all_eq_true,qL]
 constructor
 ·rintro ⟨h1,h2⟩
  refine ⟨h2,fun i hi=>?_,fun i hi w hw=>?_⟩
  ·have:=(h1 _ (yB cs i [] (by omega))).1
   omega
  ·exact (sH h2 _).1 ((h1 _ (yB cs i [] (by omega))).2 w hw)
 ·rintro ⟨h1,h2,h3⟩
  refine ⟨fun c hc=>?_,h1⟩
  obtain ⟨i,hi,rfl⟩:=List.getElem_of_mem hc
  have e:cs.getD i []=cs[i]:=by simp [wBr,hi]
  have a:=h2 i (by omega)
  have b:=h3 i (by omega)
  rw [e] at a b
  exact ⟨by omega,fun w hw=>(sH h1 _).2 (b w hw)⟩
structure COk (m:qT) (i:Nat):Prop where
 code:qQp (m.codes.getD i [])=true
 regs:(qJ m i).regs.length=8
 at0:0≤(qJ m i).at_
 at1:(qJ m i).at_<((m.codes.getD i []).length:Int)
 st0:0≤(qJ m i).st
 st1:(qJ m i).st≤2
 view:VOk m.mem.cells (qJ m i).view
structure MOk (m:qT):Prop where
 n1:1≤m.codes.length
 n4:m.codes.length≤4
 cores:m.cores.length=m.codes.length
 mem:qE0 m.mem.cells
 tr:zV m.tr m.cores.length=true
 core :∀i,i<m.cores.length→COk m i
theorem qGa {m:qT} (hc:m.mem.cells.length=24) (i:Nat):qQm m i=true↔COk m i:=by
 unfold qQm
 simp only [wBp,decide_eq_true_eq,qL,sH hc]
 constructor
 ·rintro ⟨⟨⟨⟨h1,h2⟩,h3⟩,h4⟩,h5⟩
  exact ⟨h1,h2,h3.1,by unfold qJ; omega,h4.1,h4.2,h5⟩
 ·rintro ⟨h1,h2,h3,h4,h5,h6,h7⟩
  unfold qJ at *
  exact ⟨⟨⟨⟨h1,h2⟩,by omega⟩,by omega⟩,h7⟩
theorem vC (m:qT):fD m=true↔MOk m:=by
 unfold fD
 simp only [wBp,decide_eq_true_eq,qL,qAb,pU]
 constructor
 ·rintro ⟨⟨⟨⟨h1,h2⟩,h3⟩,h4⟩,h5⟩
  exact ⟨by omega,by omega,h2,h3,h4,fun i hi=>(qGa h3.len i).1 (h5 i hi)⟩
 ·rintro ⟨h1,h2,h3,h4,h5,h6⟩
  exact ⟨⟨⟨⟨by omega,h3⟩,h4⟩,h5⟩,fun i hi=>(qGa h4.len i).2 (h6 i hi)⟩
theorem uN {α:Type} (l:List α) (i j:Nat) (a d:α) (hi:i<l.length):(l.set i a).getD j d=if j=i then a else l.getD j d:=by
 by_cases h:j=i
 ·subst h
  simp [wBr,hi]
 ·rw [if_neg h]
  simp [wBr,List.getElem?_set,show¬i=j from fun e=>h e.symm]
theorem VOk.grow {cs cs':List (List wZ)} {v:List Int} (h:VOk cs v) (hg :∀i,i<24→(cs.getD i []).length≤(cs'.getD i []).length):VOk cs' v :=
 ⟨h.1,fun i hi=>by have:=h.2 i hi; have:=hg i hi; omega⟩
theorem VOk.set {cs:List (List wZ)} {v:List Int} (h:VOk cs v) (c:Nat) (n:Int) (h0:0≤n) (h1:n<((cs.getD c []).length:Int)):VOk cs (v.set c n):=by
 refine ⟨by rw [List.length_set]; exact h.1,fun i hi=>?_⟩
 by_cases hc:c<v.length
 ·rw [uN _ _ _ _ _ hc]
  split
  ·rename_i e
   subst e
   exact ⟨h0,h1⟩
  ·exact h.2 i hi
 ·rw [List.set_eq_of_length_le (by omega)]
  exact h.2 i hi
theorem oU :∀(a b:List Int),a.length=b.length→(join a b).length=a.length
 | [],_,_=>by simp [join]
 | _::_,[],h=>by simp at h
 | a::l,b::k,h=>by simp [join,oU l k (by simpa using h)]
theorem qLb :∀(a b:List Int) (i:Nat),i<a.length→i<b.length→(join a b).getD i 0=max (a.getD i 0) (b.getD i 0)
 | [],_,i,h,_=>by simp at h
 | _::_,[],i,_,h=>by simp at h
 | a::l,b::k,0,_,_=>by simp [join]
 | a::l,b::k,i+1,h,g=>by
  simp only [join,List.getD_cons_succ]
  exact qLb l k i (by simpa using h) (by simpa using g)
theorem VOk.join {cs:List (List wZ)} {v w:List Int} (h:VOk cs v) (k:VOk cs w):VOk cs (join v w):=by
 refine ⟨by rw [oU _ _ (by rw [h.1,k.1])]; exact h.1,fun i hi=>?_⟩
 have a:=h.2 i hi
 have b:=k.2 i hi
 rw [qLb _ _ i (by rw [h.1]; exact hi) (by rw [k.1]; exact hi)]
 omega
theorem qVo (n i:Nat) (a:Int):(wBj n a).getD i a=a:=by
 rw [wBr,List.getElem?_replicate]
 split<;>rfl
theorem VOk.zero {cs:List (List wZ)} (h:qE0 cs):VOk cs (wBj 24 0):=by
 refine ⟨rfl,fun i hi=>?_⟩
 have:=(h.cell i hi).1
 rw [qVo]
 omega
def qNn (cs:List (List wZ)) (view:List Int) (cell:Nat) (late:Int):Int:=max (((cs.getD cell []).length:Int)-1-max late 0) (view.getD cell 0)
theorem qZ3 {cs:List (List wZ)} {view:List Int} {cell:Nat} {late:Int} (h:VOk cs view) (hc:cell<24):0≤qNn cs view cell late∧qNn cs view cell late<((cs.getD cell []).length:Int):=by
 have:=h.2 cell hc
 unfold qNn
 omega
theorem qYq (cs:List (List wZ)) (view:List Int) (cell:Nat) (late:Int) (hold:Bool):load cs view cell late hold=(((cs.getD cell []).getD (qNn cs view cell late).toNat default).v,if hold then join (view.set cell (qNn cs view cell late)) ((cs.getD cell []).getD (qNn cs view cell late).toNat default).view else view.set cell (qNn cs view cell late)):=rfl
theorem qS5 {cs:List (List wZ)} {view:List Int} {cell:Nat} {late:Int} {hold:Bool} (hm:qE0 cs) (h:VOk cs view) (hc:cell<24):VOk cs (load cs view cell late hold).2:=by
 have hl:=qZ3 (late:=late) h hc
 have hs:=h.set cell (qNn cs view cell late) hl.1 hl.2
 rw [qYq]
 simp only
 split
 ·refine hs.join (hm.view cell hc _ (yB _ _ _ (by omega)))
 ·exact hs
theorem qIa {cs:List (List wZ)} {view:List Int} {cell:Nat} {v:Int} {go:Bool} (hm:qE0 cs) (h:VOk cs view) (hc:cell<24) (hr:(cs.getD cell []).length<4000):qE0 (store cs view cell v go).1∧VOk (store cs view cell v go).1 (store cs view cell v go).2∧(∀i,i<24→(cs.getD i []).length≤((store cs view cell v go).1.getD i []).length):=by
 have hcl:cell<cs.length:=by rw [hm.len]; exact hc
 unfold store
 simp only
 generalize hw:(⟨v,if go then view.set cell ((cs.getD cell []).length:Int) else (wBj 24 0).set cell ((cs.getD cell []).length:Int)⟩:wZ)=w
 have hg :∀i,i<24→(cs.getD i []).length≤((cs.set cell (cs.getD cell []++[w])).getD i []).length:=fun i hi=>by
  rw [uN _ _ _ _ _ hcl]
  split
  ·rename_i e
   subst e
   simp
  ·exact Nat.le_refl _
 have hn:(((cs.set cell (cs.getD cell []++[w])).getD cell []).length:Int)=(cs.getD cell []).length+1:=by
  rw [uN _ _ _ _ _ hcl,if_pos rfl]
  simp
 have ho:VOk (cs.set cell (cs.getD cell []++[w])) (view.set cell ((cs.getD cell []).length:Int)):=(h.grow hg).set cell _ (by omega) (by omega)
 have hwe:w.view=if go then view.set cell ((cs.getD cell []).length:Int) else (wBj 24 0).set cell ((cs.getD cell []).length:Int):=by rw [←hw]
 have hwv:VOk (cs.set cell (cs.getD cell []++[w])) w.view:=by
  rw [hwe]
  split
  ·exact ho
  ·exact ((VOk.zero hm).grow hg).set cell _ (by omega) (by omega)
 refine ⟨⟨by rw [List.length_set]; exact hm.len,fun i hi=>?_,fun i hi x hx=>?_⟩,ho,hg⟩
 ·rw [uN _ _ _ _ _ hcl]
  split
  ·rw [wC5]
   simp only [List.length_singleton]
   omega
  ·exact hm.cell i hi
 ·rw [uN _ _ _ _ _ hcl] at hx
  split at hx
  ·rcases List.mem_append.1 hx with hx | hx
   ·exact (hm.view cell hc x hx).grow hg
   ·rw [List.mem_singleton.1 hx]
    exact hwv
  ·exact (hm.view i hi x hx).grow hg
theorem qUx {cs:List (List wZ)} {k:uL} {s:jB} {cell:Nat} {late:Int} (hm:qE0 cs) (h:VOk cs k.view) (hc:cell<24) (hr:s.op≠5→(cs.getD cell []).length<4000) :
  qE0 (dM cs k s cell late).1∧VOk (dM cs k s cell late).1 (dM cs k s cell late).2.view∧(∀i,i<24→(cs.getD i []).length≤((dM cs k s cell late).1.getD i []).length)∧(dM cs k s cell late).2.regs.length=k.regs.length∧(dM cs k s cell late).2.at_=k.at_∧(dM cs k s cell late).2.st=k.st:=by
 unfold dM
 split
 ·dsimp only
  exact ⟨hm,qS5 hm h hc,fun _ _=>Nat.le_refl _,by simp,rfl,rfl⟩
 ·rename_i h5
  split
  ·dsimp only
   have hs:=qIa (go:=true) (v:=rg k s.b) hm (qS5 (late:=0) (hold:=true) hm h hc) hc (hr h5)
   exact ⟨hs.1,hs.2.1,hs.2.2,by simp,rfl,rfl⟩
  ·dsimp only
   have hs:=qIa (go:=decide (s.op=7)) (v:=rg k s.b) hm h hc (hr h5)
   exact ⟨hs.1,hs.2.1,hs.2.2,rfl,rfl,rfl⟩
theorem qRu (m:qT) (i j:Nat) (k:uL) (h:i<m.cores.length):qJ (dQ m i k) j=if j=i then k else qJ m j:=uN _ _ _ _ _ h
theorem qA0 {m:qT} (h:MOk m) {i:Nat} (hi:i<m.cores.length) {k:uL} (h1:k.regs.length=8) (h2:0≤k.at_) (h3:k.at_<((m.codes.getD i []).length:Int)) (h4:0≤k.st) (h5:k.st≤2) (h6:VOk m.mem.cells k.view):MOk (dQ m i k):=by
 refine ⟨h.n1,h.n4,by simp [dQ,h.cores],h.mem,by simpa [dQ] using h.tr,fun j hj=>?_⟩
 have hj':j<m.cores.length:=by simpa [dQ] using hj
 have hc:=h.core j hj'
 have e:=qRu m i j k hi
 by_cases hji:j=i
 ·rw [if_pos hji] at e
  subst hji
  exact ⟨hc.code,by rw [e]; exact h1,by rw [e]; exact h2,by rw [e]; exact h3,by rw [e]; exact h4,by rw [e]; exact h5,by rw [e]; exact h6⟩
 ·rw [if_neg hji] at e
  exact ⟨hc.code,by rw [e]; exact hc.regs,by rw [e]; exact hc.at0,by rw [e]; exact hc.at1,by rw [e]; exact hc.st0,by rw [e]; exact hc.st1,by rw [e]; exact hc.view⟩
theorem qLh {m:qT} (h:MOk m) {i:Nat} (hi:i<m.cores.length) {k:uL} {next:Int} (h1:k.regs.length=8) (h2:0≤k.at_) (h3:k.at_<((m.codes.getD i []).length:Int)) (h4:0≤k.st) (h5:k.st≤2) (h6:VOk m.mem.cells k.view) (hn:0≤next):MOk (qHt m i k next):=by
 unfold qHt
 split
 ·exact qA0 h hi h1 h2 h3 (by simp) (by simp) h6
 ·rename_i hl
  exact qA0 h hi h1 hn (by simp only; omega) h4 h5 h6
theorem qW6 {m:qT} {who:Int} (h:eZ m who=0):0≤who∧who.toNat<m.cores.length∧(qJ m who.toNat).st=0∧((qS m who.toNat).op=9→(m.tr.length:Int)≠4000)∧(cA (qS m who.toNat).op=true→(qS m who.toNat).op≠5→qW (bF (qJ m who.toNat) (qS m who.toNat)) 0 23=true→(m.mem.cells.getD (bF (qJ m who.toNat) (qS m who.toNat)).toNat []).length<4000):=by
 unfold eZ at h
 split at h
 ·rename_i hw
  rw [qL] at hw
  simp only at h
  split at h
  ·simp at h
  ·rename_i h1
   split at h
   ·simp at h
   ·rename_i h2
    refine ⟨hw.1,by omega,?_,fun h9 h4=>h1 (.inr ⟨h9,h4⟩),fun hm h5 hc=>?_⟩
    ·apply Decidable.byContradiction
     exact fun e=>h1 (.inl e)
    ·simp only [hm,hc,h5,decide_false,Bool.not_false,Bool.and_true,Bool.true_and,decide_eq_true_eq] at h2
     omega
 ·simp at h
theorem cX {m:qT} (h:MOk m) {i:Nat} (hi:i<m.cores.length):qBc (qS m i) ((m.codes.getD i []).length:Int)=true:=by
 have hc:=h.core i hi
 have:=hc.code
 unfold qQp at this
 simp only [wBp,List.all_eq_true] at this
 have h0:=hc.at0
 have h1:=hc.at1
 exact this.1.2 _ (yB _ _ _ (by omega))
theorem qIc {s:jB} {n:Int} (h:qBc s n=true) (ho:s.op=10∨s.op=11):0≤s.n∧s.n<n:=by
 unfold qBc at h
 rcases ho with ho | ho
 ·simp [ho] at h
  omega
 ·simp [ho] at h
  omega
theorem qUv (k:uL) (s:jB):(alu k s).regs.length=k.regs.length∧(alu k s).at_=k.at_∧(alu k s).st=k.st∧(alu k s).view=k.view:=by
 unfold alu qBf
 repeat' split
 all_goals simp
theorem wA8 {m:qT} {who late:Int} (h:MOk m) (hc:eZ m who=0):MOk (mdo m who.toNat late):=by
 obtain ⟨w0,hi,hst,htr,hroom⟩:=qW6 hc
 have hk:=h.core _ hi
 have hs:=cX h hi
 have k1:=hk.regs
 have k2:=hk.at0
 have k3:=hk.at1
 have k4:=hk.st0
 have k5:=hk.st1
 have k6:=hk.view
 unfold mdo
 simp only
 split
 ·exact qA0 h hi k1 k2 k3 (by simp) (by simp) k6
 ·split
  ·exact qA0 h hi k1 k2 k3 (by simp) (by simp) k6
  ·split
   ·rename_i hm
    split
    ·rename_i hw
     have hroom':=fun h5=>hroom hm h5 hw
     rw [qL] at hw
     have ha:=qUx (late:=late) (s:=qS m who.toNat) h.mem k6 (show (bF (qJ m who.toNat) (qS m who.toNat)).toNat<24 by omega) hroom'
     generalize dM m.mem.cells (qJ m who.toNat) (qS m who.toNat) (bF (qJ m who.toNat) (qS m who.toNat)).toNat late=r at ha
     obtain ⟨a1,a2,a3,a4,a5,a6⟩:=ha
     have hM:MOk {m with mem:=⟨r.1⟩}:=⟨h.n1,h.n4,h.cores,a1,h.tr,fun j hj=>by
      have hj:=h.core j hj
      exact ⟨hj.code,hj.regs,hj.at0,hj.at1,hj.st0,hj.st1,hj.view.grow a3⟩⟩
     exact qLh hM hi (by omega) (by omega) (by simp only; omega) (by omega) (by omega) a2 (by omega)
    ·exact qA0 h hi k1 k2 k3 (by simp) (by simp) k6
   ·split
    ·rename_i h9
     have ht:=h.tr
     have hM:MOk {m with tr:=m.tr++[⟨(who.toNat:Int),rg (qJ m who.toNat) (qS m who.toNat).a⟩]}:=⟨h.n1,h.n4,h.cores,h.mem,by
      have h4:=htr h9
      unfold zV at ht⊢
      simp only [wBp,decide_eq_true_eq,List.all_append,List.all_cons,List.all_nil,qL,wC5,List.length_cons,List.length_nil] at ht⊢
      refine ⟨⟨ht.1,by omega,trivial⟩,by omega⟩,fun j hj=>by
      have hj:=h.core j hj
      exact ⟨hj.code,hj.regs,hj.at0,hj.at1,hj.st0,hj.st1,hj.view⟩⟩
     exact qLh hM hi k1 k2 k3 k4 k5 k6 (by omega)
    ·obtain ⟨a1,a2,a3,a4⟩:=qUv (qJ m who.toNat) (qS m who.toNat)
     refine qLh h hi (by omega) (by omega) (by omega) (by omega) (by omega) (by rw [a4]; exact k6) ?_
     unfold gQ
     split
     ·exact (qIc hs (.inl (by assumption))).1
     ·split
      ·rename_i hz
       exact (qIc hs (.inr hz.1)).1
      ·omega
theorem oI {m:qT} (x:qDz) (h:fD m=true):fD (jD m x).1=true:=by
 unfold jD
 split
 ·exact (vC _).2 (wA8 ((vC m).1 h) (by assumption))
 ·exact h
end Go.Sep
