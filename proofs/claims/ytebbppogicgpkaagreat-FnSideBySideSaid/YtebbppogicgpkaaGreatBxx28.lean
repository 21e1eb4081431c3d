/- Contracts of functions. -/
import Derived.Test.YtebbppogicgpkaaGreatBxx23
namespace Go.Sep
set_option maxHeartbeats 16000000
open Go.Proofs
set_option linter.unusedSimpArgs false
set_option linter.unusedVariables false
set_option maxRecDepth 100000
theorem fU {p:wR} (h:jQ p=true):wE p (jC p).1=true:=by
 have hp:=h
 simp only [jQ,dQ,Bool.and_eq_true,decide_eq_true_eq] at hp
 obtain ⟨⟨⟨hb,_⟩,hc⟩,_⟩:=hp
 rw [uP]
 simp only [jC,h,if_true]
 refine ⟨?_,?_,?_,?_,fun i hi=>?_,fun j hj=>?_⟩
 any_goals (first | exact h | (simp; done) | (simp [uR]; done))
 ·have hi':i<p.bods.length:=by simpa using hi
  have hg:(List.replicate p.bods.length eK).getD i default=eK:=by simp [List.getD_eq_getElem?_getD,hi']
  have h2:=List.all_eq_true.1 hb _ (wY p.bods i [] hi')
  simp only [jX,Bool.and_eq_true,qK] at h2
  rw [hg]
  simp only [vG,eK,Bool.and_eq_true,decide_eq_true_eq,qK]
  refine ⟨⟨rfl,by omega⟩,by omega⟩
 ·have hj':j<p.caps.length:=by simpa using hj
  have hg:(p.caps.map fun c=>(⟨c,[],false⟩:bH)).getD j default=⟨p.caps.getD j 0,[],false⟩:=by simp [List.getD_eq_getElem?_getD,hj']
  rw [hg]
  have h2:=List.all_eq_true.1 hc _ (wY p.caps j 0 hj')
  refine ⟨?_,rfl⟩
  simp only [vC,h2,Bool.true_and,decide_eq_true_eq]
  rw [qK] at h2
  simp [-List.getD_eq_getElem?_getD]
  omega
theorem qJe {p:wR} (h:jQ p=true):dB p:=by
 simp only [jQ,Bool.and_eq_true,decide_eq_true_eq,qK] at h
 obtain ⟨⟨⟨hb,h1⟩,_⟩,h2⟩:=h
 refine ⟨by omega,by omega,fun b hb'=>?_⟩
 have:=List.all_eq_true.1 hb b hb'
 simp only [jX,Bool.and_eq_true,qK] at this
 omega
end Go.Sep
