/- Contracts of functions. -/
import Derived.Test.YtebbppogicgpkaaGreatJxx27
open Bool renaming and_eq_true → qWu
open List renaming getD_eq_getElem?_getD → qWw
namespace Go.Sep
set_option maxHeartbeats 16000000
open Go.Proofs
set_option linter.unusedSimpArgs false
set_option linter.unusedVariables false
set_option maxRecDepth 100000
theorem eW {p:wU} (h:jU p=true):wL p (vA p).1=true:=by
 have hp:=h
 simp only [jU,zZ,qWu,decide_eq_true_eq] at hp
 obtain ⟨⟨⟨hb,_⟩,hc⟩,_⟩:=hp
 rw [dC]
 simp only [vA,h,if_true]
 refine ⟨?_,?_,?_,?_,fun i hi=>?_,fun j hj=>?_⟩
 any_goals (first | exact h | (simp; done) | (simp [bG]; done))
 ·have hi':i<p.bods.length:=by simpa using hi
  have hg:(List.replicate p.bods.length eF).getD i default=eF:=by simp [qWw,hi']
  have h2:=List.all_eq_true.1 hb _ (wZ p.bods i [] hi')
  simp only [uE,qWu,qP] at h2
  rw [hg]
  simp only [vR,eF,qWu,decide_eq_true_eq,qP]
  refine ⟨⟨rfl,by omega⟩,by omega⟩
 ·have hj':j<p.caps.length:=by simpa using hj
  have hg:(p.caps.map fun c=>(⟨c,[],false⟩:bR)).getD j default=⟨p.caps.getD j 0,[],false⟩:=by simp [qWw,hj']
  rw [hg]
  have h2:=List.all_eq_true.1 hc _ (wZ p.caps j 0 hj')
  refine ⟨?_,rfl⟩
  simp only [vH,h2,Bool.true_and,decide_eq_true_eq]
  rw [qP] at h2
  simp [-qWw]
  omega
theorem qJd {p:wU} (h:jU p=true):vY p:=by
 simp only [jU,qWu,decide_eq_true_eq,qP] at h
 obtain ⟨⟨⟨hb,h1⟩,_⟩,h2⟩:=h
 refine ⟨by omega,by omega,fun b hb'=>?_⟩
 have:=List.all_eq_true.1 hb b hb'
 simp only [uE,qWu,qP] at this
 omega
end Go.Sep
