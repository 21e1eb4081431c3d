/- Contracts of functions. -/
import Derived.Test.YtbfklilhgekabaaPxx10
open Bool renaming and_eq_true → qXa
open List renaming getD_eq_getElem?_getD → qXc
namespace Go.Sep
set_option maxHeartbeats 16000000
open Go.Proofs
set_option linter.unusedSimpArgs false
set_option linter.unusedVariables false
set_option maxRecDepth 100000
theorem xK {p:wJ} (h:jB p=true):qW p (wP p).1=true:=by
 have hp:=h
 simp only [jB,dK,qXa,decide_eq_true_eq] at hp
 obtain ⟨⟨⟨hb,_⟩,hc⟩,_⟩:=hp
 rw [yW]
 simp only [wP,h,if_true]
 refine ⟨?_,?_,?_,?_,fun i hi=>?_,fun j hj=>?_⟩
 any_goals (first | exact h | (simp; done) | (simp [dW]; done))
 ·have hi':i<p.bods.length:=by simpa using hi
  have hg:(List.replicate p.bods.length aQ).getD i default=aQ:=by simp [qXc,hi']
  have h2:=List.all_eq_true.1 hb _ (jD p.bods i [] hi')
  simp only [wN,qXa,qK] at h2
  rw [hg]
  simp only [vR,aQ,qXa,decide_eq_true_eq,qK]
  refine ⟨⟨rfl,by omega⟩,by omega⟩
 ·have hj':j<p.caps.length:=by simpa using hj
  have hg:(p.caps.map fun c=>(⟨c,[],false⟩:jP)).getD j default=⟨p.caps.getD j 0,[],false⟩:=by simp [qXc,hj']
  rw [hg]
  have h2:=List.all_eq_true.1 hc _ (jD p.caps j 0 hj')
  refine ⟨?_,rfl⟩
  simp only [jJ,h2,Bool.true_and,decide_eq_true_eq]
  rw [qK] at h2
  simp [-qXc]
  omega
theorem qFx {p:wJ} (h:jB p=true):iC p:=by
 simp only [jB,qXa,decide_eq_true_eq,qK] at h
 obtain ⟨⟨⟨hb,h1⟩,_⟩,h2⟩:=h
 refine ⟨by omega,by omega,fun b hb'=>?_⟩
 have:=List.all_eq_true.1 hb b hb'
 simp only [wN,qXa,qK] at this
 omega
def qEa (p:wJ) (m:qP) (s:qR) (n:Int):Bool :=
 qS n 0 (p.caps.length-1)&&decide (n<s.chs.length) &&
  (qCb m.mem.cells p.caps n||((qAm m.mem.cells p.caps n).2&&decide ((qAm m.mem.cells p.caps n).1.cap=(s.chs.getD n.toNat default).cap)&&decide ((qAm m.mem.cells p.caps n).1.list=(s.chs.getD n.toNat default).list)&&decide ((qAm m.mem.cells p.caps n).1.closed=(s.chs.getD n.toNat default).closed)))
def same (p:wJ) (m:qP) (s:qR):Bool :=
 jB p&&eZ m&&qW p s&&decide (m.cores.length=s.ths.length)&&decide (m.tr=s.tr) &&
  (List.range m.cores.length).all (fun i=>nG p m s i)&&(List.range p.caps.length).all (fun n=>qEa p m s n)
end Go.Sep
