/- Contracts of functions. -/
import Derived.Test.YtfecojefbnnknaaMxx10
open Bool renaming and_eq_true → wCs
open List renaming getD_eq_getElem?_getD → wCu
namespace Go.Sep
set_option maxHeartbeats 16000000
open Go.Proofs
set_option linter.unusedSimpArgs false
set_option linter.unusedVariables false
set_option maxRecDepth 100000
theorem bQ {p:wK} (h:wY p=true):qZ p (wE p).1=true:=by
 have hp:=h
 simp only [wY,zR,wCs,decide_eq_true_eq] at hp
 obtain ⟨⟨⟨hb,_⟩,hc⟩,_⟩:=hp
 rw [jF]
 simp only [wE,h,if_true]
 refine ⟨?_,?_,?_,?_,fun i hi=>?_,fun j hj=>?_⟩
 any_goals (first | exact h | (simp; done) | (simp [xC]; done))
 ·have hi':i<p.bods.length:=by simpa using hi
  have hg:(List.replicate p.bods.length zC).getD i default=zC:=by simp [wCu,hi']
  have h2:=List.all_eq_true.1 hb _ (yL p.bods i [] hi')
  simp only [wB,wCs,qK] at h2
  rw [hg]
  simp only [vZ,zC,wCs,decide_eq_true_eq,qK]
  refine ⟨⟨rfl,by omega⟩,by omega⟩
 ·have hj':j<p.caps.length:=by simpa using hj
  have hg:(p.caps.map fun c=>(⟨c,[],false⟩:jU)).getD j default=⟨p.caps.getD j 0,[],false⟩:=by simp [wCu,hj']
  rw [hg]
  have h2:=List.all_eq_true.1 hc _ (yL p.caps j 0 hj')
  refine ⟨?_,rfl⟩
  simp only [jQ,h2,Bool.true_and,decide_eq_true_eq]
  rw [qK] at h2
  simp [-wCu]
  omega
theorem rH {p:wK} (h:wY p=true):eZ p:=by
 simp only [wY,wCs,decide_eq_true_eq,qK] at h
 obtain ⟨⟨⟨hb,h1⟩,_⟩,h2⟩:=h
 refine ⟨by omega,by omega,fun b hb'=>?_⟩
 have:=List.all_eq_true.1 hb b hb'
 simp only [wB,wCs,qK] at this
 omega
def qH8 (p:wK) (m:qQ) (s:qU) (n:Int):Bool :=
 qR n 0 (p.caps.length-1)&&decide (n<s.chs.length) &&
  (qEr m.mem.cells p.caps n||((qCq m.mem.cells p.caps n).2&&decide ((qCq m.mem.cells p.caps n).1.cap=(s.chs.getD n.toNat default).cap)&&decide ((qCq m.mem.cells p.caps n).1.list=(s.chs.getD n.toNat default).list)&&decide ((qCq m.mem.cells p.caps n).1.closed=(s.chs.getD n.toNat default).closed)))
def same (p:wK) (m:qQ) (s:qU):Bool :=
 wY p&&hB m&&qZ p s&&decide (m.cores.length=s.ths.length)&&decide (m.tr=s.tr) &&
  (List.range m.cores.length).all (fun i=>pV p m s i)&&(List.range p.caps.length).all (fun n=>qH8 p m s n)
end Go.Sep
