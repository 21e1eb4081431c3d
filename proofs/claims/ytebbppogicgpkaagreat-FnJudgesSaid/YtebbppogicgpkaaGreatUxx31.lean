/- Contracts of functions. -/
import Derived.Test.YtebbppogicgpkaaGreatUxx26
open Bool renaming and_eq_true → qXo
open List renaming getD_eq_getElem?_getD → qXq
namespace Go.Sep
set_option maxHeartbeats 16000000
open Go.Proofs
set_option linter.unusedSimpArgs false
set_option linter.unusedVariables false
set_option maxRecDepth 100000
theorem cD {p:wV} (h:jX p=true):wO p (vD p).1=true:=by
 have hp:=h
 simp only [jX,xH,qXo,decide_eq_true_eq] at hp
 obtain ⟨⟨⟨hb,_⟩,hc⟩,_⟩:=hp
 rw [dF]
 simp only [vD,h,if_true]
 refine ⟨?_,?_,?_,?_,fun i hi=>?_,fun j hj=>?_⟩
 any_goals (first | exact h | (simp; done) | (simp [bJ]; done))
 ·have hi':i<p.bods.length:=by simpa using hi
  have hg:(List.replicate p.bods.length eM).getD i default=eM:=by simp [qXq,hi']
  have h2:=List.all_eq_true.1 hb _ (yB p.bods i [] hi')
  simp only [uI,qXo,qO] at h2
  rw [hg]
  simp only [vT,eM,qXo,decide_eq_true_eq,qO]
  refine ⟨⟨rfl,by omega⟩,by omega⟩
 ·have hj':j<p.caps.length:=by simpa using hj
  have hg:(p.caps.map fun c=>(⟨c,[],false⟩:bS)).getD j default=⟨p.caps.getD j 0,[],false⟩:=by simp [qXq,hj']
  rw [hg]
  have h2:=List.all_eq_true.1 hc _ (yB p.caps j 0 hj')
  refine ⟨?_,rfl⟩
  simp only [vK,h2,Bool.true_and,decide_eq_true_eq]
  rw [qO] at h2
  simp [-qXq]
  omega
theorem qKb {p:wV} (h:jX p=true):uD p:=by
 simp only [jX,qXo,decide_eq_true_eq,qO] at h
 obtain ⟨⟨⟨hb,h1⟩,_⟩,h2⟩:=h
 refine ⟨by omega,by omega,fun b hb'=>?_⟩
 have:=List.all_eq_true.1 hb b hb'
 simp only [uI,qXo,qO] at this
 omega
end Go.Sep
