/- Contracts of functions. -/
import Derived.Test.YtfecojefbnnknaaLxx20
namespace Go.Sep
set_option maxHeartbeats 16000000
open Go.Proofs
set_option linter.unusedSimpArgs false
set_option linter.unusedVariables false
set_option maxRecDepth 100000
noncomputable def qVa (l:List Ins) (a:Nat):Bool:=(qWl l).getD a false&&@decide (qW2 l a) (Classical.propDecidable _)
noncomputable def qTe (l:List Ins) (a:Nat):Ins:=if qVa l a then ⟨11,0,0,0,((a+1:Nat):Int)⟩ else l.getD a default
noncomputable def lZ (l:List Ins):List Ins:=if wJ l 3 then (List.range l.length).map (qTe l) else l
theorem qIu (l:List Ins):(lZ l).length=l.length:=by
 unfold lZ
 split<;>simp
theorem qTd {l:List Ins} (h:wJ l 3=true) {a:Nat} (ha:a<l.length):(lZ l).getD a default=qTe l a:=by
 unfold lZ
 rw [if_pos h]
 simp [List.getD_eq_getElem?_getD,ha]
theorem qSd {l:List Ins} {a:Nat} (h:qVa l a=true):qW2 l a:=by
 unfold qVa at h
 rw [Bool.and_eq_true] at h
 exact @of_decide_eq_true _ (Classical.propDecidable _) h.2
theorem qQr (l:List Ins):Trm l (lZ l):=by
 by_cases h:wJ l 3=true
 ·refine ⟨qIu l,fun a ha=>?_⟩
  rw [qTd h ha]
  unfold qTe
  split
  ·rename_i hd
   exact .inr ⟨qSd hd,rfl⟩
  ·exact .inl rfl
 ·have:lZ l=l:=by unfold lZ; rw [if_neg h]
  rw [this]
  exact Trm.refl l
theorem qTc {l:List Ins} {c:Int} (h:wJ l c=true):wJ (lZ l) c=true:=by
 have h3:=qCj h
 have ht:=qQr l
 generalize lZ l=k at ht
 obtain ⟨hl,hat⟩:=ht
 unfold wJ at h⊢
 simp only [Bool.and_eq_true,qK,List.all_eq_true,Bool.or_eq_true,decide_eq_true_eq] at h⊢
 obtain ⟨⟨⟨h1,h2⟩,h4⟩,h5⟩:=h
 rw [hl]
 refine ⟨⟨⟨h1,h2⟩,fun y hy=>?_⟩,?_⟩
 ·obtain ⟨i,hi,rfl⟩:=List.getElem_of_mem hy
  have hi':i<l.length:=by omega
  have e:k[i]=k.getD i default:=by simp [List.getD_eq_getElem?_getD,hi]
  rw [e]
  rcases hat i hi' with e | ⟨⟨_,hd,_⟩,e⟩
  ·rw [e]
   exact h4 _ (yO l i default hi')
  ·rw [e]
   unfold jE
   simp [qK]
   omega
 ·unfold zW at h5⊢
  rw [hl]
  rcases hat (l.length-1) (by omega) with e | ⟨⟨_,hd,_⟩,e⟩
  ·rw [e]
   exact h5
  ·omega
noncomputable def iJ (p:wU):wU:=if vC p then ⟨p.caps,p.bods.map lZ⟩ else p
theorem qBj {p:wU} (h:vC p=true):iJ p=⟨p.caps,p.bods.map lZ⟩:=by simp [iJ,h]
theorem qBi {p:wU} (h:vC p=true):vC (iJ p)=true:=by
 rw [qBj h]
 unfold vC at h⊢
 simp only [Bool.and_eq_true,List.all_eq_true,List.length_map] at h⊢
 obtain ⟨⟨⟨h1,h2⟩,h3⟩,h4⟩:=h
 refine ⟨⟨⟨fun b hb=>?_,h2⟩,h3⟩,h4⟩
 obtain ⟨b',hb',rfl⟩:=List.mem_map.1 hb
 exact qTc (h1 b' hb')
theorem qTb {p:wU} (h:vC p=true):jR (iJ p)=jR p:=by
 unfold jR
 rw [if_pos h,if_pos (qBi h),qBj h]
 simp
theorem LvI.new {p:wU} (h:vC p=true):LvI p (iJ p) (jR p).1 (jR (iJ p)).1:=by
 have h1:=aC h
 have h2:=aC (qBi h)
 rw [qTb h] at h2⊢
 exact ⟨h1,h2,rfl,rfl,rfl,fun _ _=>⟨rfl,rfl,fun _ _ _=>rfl⟩⟩
theorem qUa {p:wU} {s t:qS} (h:LvI p p s t) (l:List Int):LvI p p (rZ p s l) (rZ p t l)∧eR p t l=eR p s l :=
 LvI.run (fun _ _=>Trm.refl _) l h
end Go.Sep
