/- Contracts of functions. -/
import Derived.Test.YtbfklilhgekabaaNxx10
open Bool renaming and_eq_true → qX9
open List renaming getD_eq_getElem?_getD → qXb
namespace Go.Sep
set_option maxHeartbeats 16000000
open Go.Proofs
set_option linter.unusedSimpArgs false
set_option linter.unusedVariables false
set_option maxRecDepth 100000
def jN (cs:List (List wZ)) (c:Nat):Int:=((cs.getD c []).getD ((cs.getD c []).length-1) default).v
def qOt:vA:=⟨0,[],false⟩
def qLe (cs:List (List wZ)) (b:Nat) (room f:Int) (k:Nat):List Int:=(List.range k).map fun (i:Nat)=>jN cs (b+4+((f+(i:Int))%room).toNat)
theorem qJ6 (cs:List (List wZ)) (b:Nat) (room f:Int) (k:Nat):(qLe cs b room f k).length=k:=by simp [qLe]
def qNm (cs:List (List wZ)) (b:Nat) (room:Int):vA×Bool :=
 if qS (jN cs (b+1)) 0 (room-1)&&qS (jN cs (b+2)) 0 room&&qS (jN cs (b+3)) 0 1 then
  (⟨room,qLe cs b room (jN cs (b+1)) (jN cs (b+2)).toNat,decide (jN cs (b+3)=1)⟩,true)
 else (qOt,false)
def qAp (cs:List (List wZ)) (caps:List Int) (n:Int):vA×Bool :=
 if !decide (base caps n<0)&&nC cs then qNm cs (base caps n).toNat (caps.getD n.toNat 0) else (qOt,false)
def qCg (cs:List (List wZ)) (caps:List Int) (n:Int):Bool:=decide (0≤base caps n)&&nC cs&&!decide (jN cs (base caps n).toNat=0)
theorem rY {p:yM} (h:uZ p=true):wG p (uR p).1=true:=by
 have hp:=h
 simp only [uZ,zD,qX9,decide_eq_true_eq] at hp
 obtain ⟨⟨⟨hb,_⟩,hc⟩,_⟩:=hp
 rw [yU]
 simp only [uR,h,if_true]
 refine ⟨?_,?_,?_,?_,fun i hi=>?_,fun j hj=>?_⟩
 any_goals (first | exact h | (simp; done) | (simp [zS]; done))
 ·have hi':i<p.bods.length:=by simpa using hi
  have hg:(List.replicate p.bods.length zQ).getD i default=zQ:=by simp [qXb,hi']
  have h2:=List.all_eq_true.1 hb _ (yR p.bods i [] hi')
  simp only [wV,qX9,qK] at h2
  rw [hg]
  simp only [vQ,zQ,qX9,decide_eq_true_eq,qK]
  refine ⟨⟨rfl,by omega⟩,by omega⟩
 ·have hj':j<p.caps.length:=by simpa using hj
  have hg:(p.caps.map fun c=>(⟨c,[],false⟩:vA)).getD j default=⟨p.caps.getD j 0,[],false⟩:=by simp [qXb,hj']
  rw [hg]
  have h2:=List.all_eq_true.1 hc _ (yR p.caps j 0 hj')
  refine ⟨?_,rfl⟩
  simp only [jQ,h2,Bool.true_and,decide_eq_true_eq]
  rw [qK] at h2
  simp [-qXb]
  omega
theorem qPs {p:yM} (h:uZ p=true):rG p:=by
 simp only [uZ,qX9,decide_eq_true_eq,qK] at h
 obtain ⟨⟨⟨hb,h1⟩,_⟩,h2⟩:=h
 refine ⟨by omega,by omega,fun b hb'=>?_⟩
 have:=List.all_eq_true.1 hb b hb'
 simp only [wV,qX9,qK] at this
 omega
def qEn (p:yM) (m:qQ) (s:qW) (n:Int):Bool :=
 qS n 0 (p.caps.length-1)&&decide (n<s.chs.length) &&
  (qCg m.mem.cells p.caps n||((qAp m.mem.cells p.caps n).2&&decide ((qAp m.mem.cells p.caps n).1.cap=(s.chs.getD n.toNat default).cap)&&decide ((qAp m.mem.cells p.caps n).1.list=(s.chs.getD n.toNat default).list)&&decide ((qAp m.mem.cells p.caps n).1.closed=(s.chs.getD n.toNat default).closed)))
def same (p:yM) (m:qQ) (s:qW):Bool :=
 uZ p&&cN m&&wG p s&&decide (m.cores.length=s.ths.length)&&decide (m.tr=s.tr) &&
  (List.range m.cores.length).all (fun i=>nO p m s i)&&(List.range p.caps.length).all (fun n=>qEn p m s n)
end Go.Sep
