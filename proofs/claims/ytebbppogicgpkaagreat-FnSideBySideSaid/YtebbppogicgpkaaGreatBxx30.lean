/- Contracts of functions. -/
import Derived.Test.YtebbppogicgpkaaGreatBxx26
import Derived.Test.YtebbppogicgpkaaGreatBxx28
import Derived.Test.YtebbppogicgpkaaGreatBxx29
namespace Go.Sep
set_option maxHeartbeats 16000000
open Go.Proofs
set_option linter.unusedSimpArgs false
set_option linter.unusedVariables false
set_option maxRecDepth 100000
def qXq (p:wR) (o:List Int):wC×List Int:=xB p (jC p).1 o
theorem qPl (p:wR) (o:List Int) (h:jQ p=true):kL (jC p).1:=rU (fU h)
theorem qFu (p:wR) :∀(l:List Int) (s:wC) (c:List Int),wE p s=true→wE p (l.foldl (xM p) (s,c)).1=true
 | [],s,c,h=>h
 | x::l,s,c,h=>by
  simp only [List.foldl_cons,xM]
  exact qFu p l _ _ (iC x h)
theorem qGv {p:wR} {o:List Int} (h:jQ p=true):wE p (qXq p o).1=true:=by
 unfold qXq xB
 split
 ·exact qFu p o _ _ (fU h)
 ·exact fU h
theorem qA4 {p:wR} {l:List dK} (h:(uI p l).2.2=true):jQ p=true∧bJ p.caps=true∧yY (uI p l).2.1=true∧(launch p).2=true∧uI p l=(zC p (launch p).1 l,kZ (launch p).1 l,true)∧(uI p l).1.length≤l.length:=by
 unfold uI at h⊢
 split at h
 ·rename_i hc
  rw [if_pos hc]
  simp only [Bool.and_eq_true,decide_eq_true_eq] at hc
  obtain ⟨h1,h2,h3,h4⟩:=lB hc.1
  exact ⟨h1,h2,qF3 l h4,hc.1,rfl,oT p _ l⟩
 ·exact absurd h (by simp)
end Go.Sep
