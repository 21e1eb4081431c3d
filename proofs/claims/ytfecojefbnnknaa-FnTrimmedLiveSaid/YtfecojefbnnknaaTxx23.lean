/- Contracts of functions. -/
import Derived.Test.YtfecojefbnnknaaTxx22
open List renaming getD_eq_getElem?_getD → qZa
namespace Go.Sep
set_option maxHeartbeats 16000000
open Go.Proofs
set_option linter.unusedSimpArgs false
set_option linter.unusedVariables false
set_option maxRecDepth 100000
noncomputable def nQ (l:List Ins) (a:Nat):Bool:=(aX l).getD a false&&@decide (qQ3 l a) (Classical.propDecidable _)
noncomputable def qOq (l:List Ins) (a:Nat):Ins:=if nQ l a then ⟨11,0,0,0,((a+1:Nat):Int)⟩ else l.getD a default
noncomputable def aK (l:List Ins):List Ins:=if wJ l 3 then (List.range l.length).map (qOq l) else l
theorem kS (l:List Ins):(aK l).length=l.length:=by
 unfold aK
 split<;>simp
theorem qK7 {l:List Ins} (h:wJ l 3=true) {a:Nat} (ha:a<l.length):(aK l).getD a default=qOq l a:=by
 unfold aK
 rw [if_pos h]
 simp [qZa,ha]
theorem qRq {l:List Ins} {a:Nat} (h:nQ l a=true):qQ3 l a:=by
 unfold nQ at h
 rw [Bool.and_eq_true] at h
 exact @of_decide_eq_true _ (Classical.propDecidable _) h.2
theorem qGc (l:List Ins):Trm l (aK l):=by
 by_cases h:wJ l 3=true
 ·refine ⟨kS l,fun a ha=>?_⟩
  rw [qK7 h ha]
  unfold qOq
  split
  ·rename_i hd
   exact .inr ⟨qRq hd,rfl⟩
  ·exact .inl rfl
 ·have:aK l=l:=by unfold aK; rw [if_neg h]
  rw [this]
  exact Trm.refl l
theorem qSt {l:List Ins} {c:Int} (h:wJ l c=true):wJ (aK l) c=true:=by
 have h3:=qC6 h
 have ht:=qGc l
 generalize aK l=k at ht
 obtain ⟨hl,hat⟩:=ht
 unfold wJ at h⊢
 simp only [Bool.and_eq_true,qK,List.all_eq_true,Bool.or_eq_true,decide_eq_true_eq] at h⊢
 obtain ⟨⟨⟨h1,h2⟩,h4⟩,h5⟩:=h
 rw [hl]
 refine ⟨⟨⟨h1,h2⟩,fun y hy=>?_⟩,?_⟩
 ·obtain ⟨i,hi,rfl⟩:=List.getElem_of_mem hy
  have hi':i<l.length:=by omega
  have e:k[i]=k.getD i default:=by simp [qZa,hi]
  rw [e]
  rcases hat i hi' with e | ⟨⟨_,hd,_⟩,e⟩
  ·rw [e]
   exact h4 _ (yL l i default hi')
  ·rw [e]
   unfold jR
   simp [qK]
   omega
 ·unfold aD at h5⊢
  rw [hl]
  rcases hat (l.length-1) (by omega) with e | ⟨⟨_,hd,_⟩,e⟩
  ·rw [e]
   exact h5
  ·omega
noncomputable def jO (p:wT):wT:=if jF p then ⟨p.caps,p.bods.map aK⟩ else p
theorem mG {p:wT} (h:jF p=true):jO p=⟨p.caps,p.bods.map aK⟩:=by simp [jO,h]
theorem fL {p:wT} (h:jF p=true):jF (jO p)=true:=by
 rw [mG h]
 unfold jF at h⊢
 simp only [Bool.and_eq_true,List.all_eq_true,List.length_map] at h⊢
 obtain ⟨⟨⟨h1,h2⟩,h3⟩,h4⟩:=h
 refine ⟨⟨⟨fun b hb=>?_,h2⟩,h3⟩,h4⟩
 obtain ⟨b',hb',rfl⟩:=List.mem_map.1 hb
 exact qSt (h1 b' hb')
theorem qIf {p:wT} (h:jF p=true) :∀i,i<p.bods.length→Trm (body p i) (body (jO p) i):=by
 intro i hi
 have:body (jO p) i=aK (body p i):=by
  rw [mG h]
  unfold body
  simp [qZa,hi]
 rw [this]
 exact qGc _
theorem qSr {p:wT} (h:jF p=true):yG (jO p)=yG p:=by
 unfold yG
 rw [if_pos h,if_pos (fL h),mG h]
 simp
theorem LvI.new {p:wT} (h:jF p=true):LvI p (jO p) (yG p).1 (yG (jO p)).1:=by
 have h1:=gT h
 have h2:=gT (fL h)
 rw [qSr h] at h2⊢
 exact ⟨h1,h2,rfl,rfl,rfl,fun _ _=>⟨rfl,rfl,fun _ _ _=>rfl⟩⟩
theorem qSq {p:wT} (h:jF p=true) (l:List Int):LvI p (jO p) (rU p (yG p).1 l) (rU (jO p) (yG (jO p)).1 l)∧eQ (jO p) (yG (jO p)).1 l=eQ p (yG p).1 l :=
 LvI.run (qIf h) l (LvI.new h)
end Go.Sep
